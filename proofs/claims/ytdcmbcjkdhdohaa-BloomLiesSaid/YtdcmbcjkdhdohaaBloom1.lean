/- Walks: bloom.Size, sized, Right, numbers, Places. -/
import Derived.Test.YtdcmbcjkdhdohaaSeal3
import Derived.Test.YtdcmbcjkdhdohaaBit
namespace Go.Proofs.Ytdcmbcjkdhdohaa
open Go Go.RowKit
attribute [local irreducible] wpList wpP Code.wp

theorem size_c (n : Nat) (w : World) (hn : n ≤ 9223372036854775807) :
    Calls Try.prog 68 (([I ((n : Nat) : Int)] : List Value).toArray) w (fun e w' => ∃ v, e = .returned v ∧ v = I ((bsz n : Nat) : Int) ∧ Below w.heap.size w w') := by
  refine calls_mk Try.func68 rfl 19 Try.ntmps68 rfl ?_
  have H0 : St w [] [] w := St.refl w
  refine c_seq ?_
  refine c_reg ?_
  refine sy (v := I ((0 : Nat) : Int)) (y_assign (v := I ((0 : Nat) : Int)) rfl) ?_
  refine c_nil ?_
  refine n_then ?_
  refine c_seq ?_
  refine c_reg ?_
  refine sy (v := I ((n : Nat) : Int)) (y_move rfl) ?_
  refine sy (v := I ((max n 0 : Nat) : Int)) (n_max (a := n) (b := 0) rfl rfl) ?_
  refine sy (v := I ((min (max n 0) 8192 : Nat) : Int)) (n_min (a := max n 0) (b := 8192) rfl rfl) ?_
  refine sy (v := I ((min (max n 0) 8192 : Nat) : Int)) (y_assign rfl) ?_
  refine c_nil ?_
  refine n_then ?_
  refine c_seq ?_
  refine c_reg ?_
  refine sy (v := I ((8 : Nat) : Int)) (y_assign (v := I ((8 : Nat) : Int)) rfl) ?_
  refine c_nil ?_
  refine n_then ?_
  refine c_seq ?_
  refine wp_block ?_
  refine c_loop (fun (k : Nat) f1 w2 => ∃ (z : Nat), f1 0 = I ((min (max n 0) 8192 : Nat) : Int) ∧ f1 3 = I ((z : Nat) : Int) ∧ bz (min (max n 0) 8192) k z = bsz n ∧ z * 2 ^ k = 8192 ∧ 8 ≤ z ∧ z ≤ 8192 ∧ St w [] [] w2) (fun k => k) 10 ⟨8, rfl, rfl, (bz_min n 10 8), (by decide), (by omega), (by omega), H0⟩ ?_
  rintro k f1 w2 ⟨z, s0_3, s3_3, hb, hz, h8, hm, H3⟩
  refine c_seq ?_
  refine c_seq ?_
  refine c_reg ?_
  refine sy (v := I ((z : Nat) : Int)) (y_move s3_3) ?_
  refine sy (v := .bool (decide (z < 8192))) (n_lss (a := z) (b := 8192) rfl rfl) ?_
  refine sy (v := .bool (decide (z < 8192))) (y_move rfl) ?_
  by_cases hp4 : z < 8192
  · skip
    refine gsy (v := I ((z : Nat) : Int)) (gv_of (t := 9) rfl rfl rfl) (decide_eq_true hp4) (y_move s3_3) ?_
    refine gsy (v := I ((8 * z : Nat) : Int)) (gv_of (t := 9) rfl rfl rfl) (decide_eq_true hp4) (n_mul (a := 8) (b := z) rfl rfl (by omega)) ?_
    refine gsy (v := I ((min (max n 0) 8192 : Nat) : Int)) (gv_of (t := 9) rfl rfl rfl) (decide_eq_true hp4) (y_move s0_3) ?_
    refine gsy (v := I ((10 * (min (max n 0) 8192) : Nat) : Int)) (gv_of (t := 9) rfl rfl rfl) (decide_eq_true hp4) (n_mul (a := 10) (b := min (max n 0) 8192) rfl rfl (by omega)) ?_
    refine gsy (v := .bool (decide ((8 * z) < (10 * (min (max n 0) 8192))))) (gv_of (t := 9) rfl rfl rfl) (decide_eq_true hp4) (n_lss (a := 8 * z) (b := 10 * (min (max n 0) 8192)) rfl rfl) ?_
    refine sy (v := .bool (decide ((8 * z) < (10 * (min (max n 0) 8192))))) (y_pickT rfl (decide_eq_true hp4) rfl) ?_
    refine c_nil ?_
    refine n_then ?_
    refine c_if rfl (fun hc5 => ?_) (fun hc5 => ?_)
    · skip
      obtain ⟨k', rfl⟩ : ∃ k', k = k' + 1 := by
        cases k with
        | zero => simp at hz; omega
        | succ k' => exact ⟨k', rfl⟩
      refine wp_skip ?_
      refine n_then ?_
      refine wp_block ?_
      refine c_reg ?_
      refine sy (v := I ((z : Nat) : Int)) (y_move s3_3) ?_
      refine sy (v := I ((z * 2 : Nat) : Int)) (n_mul (a := z) (b := 2) rfl rfl (by omega)) ?_
      refine sy (v := I ((z * 2 : Nat) : Int)) (y_assign rfl) ?_
      refine c_nil ?_
      refine n_block ?_
      exact lp_next k' ⟨_, s0_3, rfl, (by rw [← hb]; simp only [bz]; rw [if_pos (by omega)]), (by rw [← hz, Nat.pow_succ, Nat.mul_assoc, Nat.mul_comm 2]), (by omega), (by rw [← hz, Nat.pow_succ]; exact Nat.mul_le_mul_left z (by have := Nat.one_le_two_pow (n := k'); omega)), H3⟩ (by show _ < _; omega)
    · skip
      refine wp_exit ?_
      refine x_then (x_then (x_hit (n_then ?_)))
      refine c_seq ?_
      refine c_reg ?_
      refine sy (v := I ((z : Nat) : Int)) (y_move s3_3) ?_
      refine sy (v := I ((z : Nat) : Int)) (y_assign rfl) ?_
      refine c_nil ?_
      refine n_then ?_
      refine wp_ret ?_
      refine e_r1 Try.results68 (rv_t rfl) ?_
      have hzz : z = bsz n := by rw [← hb]; exact (bz_end (by omega)).symm
      refine ⟨_, rfl, ?_, H3.below⟩
      exact congrArg (fun q : Nat => I (q : Int)) hzz
  · skip
    refine gno (gv_of (t := 9) rfl rfl rfl) (decide_eq_false hp4) ?_
    refine gno (gv_of (t := 9) rfl rfl rfl) (decide_eq_false hp4) ?_
    refine gno (gv_of (t := 9) rfl rfl rfl) (decide_eq_false hp4) ?_
    refine gno (gv_of (t := 9) rfl rfl rfl) (decide_eq_false hp4) ?_
    refine gno (gv_of (t := 9) rfl rfl rfl) (decide_eq_false hp4) ?_
    refine sy (v := .bool (false)) (y_pickF (v := .bool (false)) rfl (decide_eq_false hp4) rfl) ?_
    refine c_nil ?_
    refine n_then ?_
    refine c_f rfl rfl ?_
    refine wp_exit ?_
    refine x_then (x_then (x_hit (n_then ?_)))
    refine c_seq ?_
    refine c_reg ?_
    refine sy (v := I ((z : Nat) : Int)) (y_move s3_3) ?_
    refine sy (v := I ((z : Nat) : Int)) (y_assign rfl) ?_
    refine c_nil ?_
    refine n_then ?_
    refine wp_ret ?_
    refine e_r1 Try.results68 (rv_t rfl) ?_
    have hzz : z = bsz n := by rw [← hb]; exact (bz_end (by omega)).symm
    refine ⟨_, rfl, ?_, H3.below⟩
    exact congrArg (fun q : Nat => I (q : Int)) hzz

theorem sized_c (i : Int) (w : World) :
    Calls Try.prog 100 (([I (i)] : List Value).toArray) w (fun e w' => ∃ v, e = .returned v ∧ v = .bool (decide (okS i)) ∧ Below w.heap.size w w') := by
  refine calls_mk Try.func100 rfl 16 Try.ntmps100 rfl ?_
  have H0 : St w [] [] w := St.refl w
  refine c_seq ?_
  refine c_reg ?_
  refine sy (v := .bool (false)) (y_assign (v := .bool (false)) rfl) ?_
  refine c_nil ?_
  refine n_then ?_
  refine c_seq ?_
  refine c_reg ?_
  refine sy (v := I (i)) (y_move rfl) ?_
  refine sy (v := .bool (decide (((8 : Nat) : Int) ≤ i))) (y_geq (i := i) (j := ((8 : Nat) : Int)) rfl rfl) ?_
  refine sy (v := .bool (decide (((8 : Nat) : Int) ≤ i))) (y_move rfl) ?_
  by_cases hp1 : ((8 : Nat) : Int) ≤ i
  · skip
    refine gsy (v := I (i)) (gv_of (t := 5) rfl rfl rfl) (decide_eq_true hp1) (y_move rfl) ?_
    refine gsy (v := .bool (decide (i ≤ ((8192 : Nat) : Int)))) (gv_of (t := 5) rfl rfl rfl) (decide_eq_true hp1) (y_leq (i := i) (j := ((8192 : Nat) : Int)) rfl rfl) ?_
    refine sy (v := .bool (decide (i ≤ ((8192 : Nat) : Int)))) (y_pickT rfl (decide_eq_true hp1) rfl) ?_
    refine sy (v := .bool (decide (i ≤ ((8192 : Nat) : Int)))) (y_move rfl) ?_
    by_cases hp2 : i ≤ ((8192 : Nat) : Int)
    · skip
      refine gsy (v := I (i)) (gv_of (t := 9) rfl rfl rfl) (decide_eq_true hp2) (y_move rfl) ?_
      refine gsy (v := I (i)) (gv_of (t := 9) rfl rfl rfl) (decide_eq_true hp2) (y_move rfl) ?_
      refine gsy (v := I (i - ((1 : Nat) : Int))) (gv_of (t := 9) rfl rfl rfl) (decide_eq_true hp2) (y_sub (i := i) (j := ((1 : Nat) : Int)) rfl rfl (by omega)) ?_
      have e1 : i = ((i.toNat : Nat) : Int) := by omega
      have e2 : i - ((1 : Nat) : Int) = ((i.toNat - 1 : Nat) : Int) := by omega
      refine gsy (v := I ((i.toNat &&& (i.toNat - 1) : Nat) : Int)) (gv_of (t := 9) rfl rfl rfl) (decide_eq_true hp2) (n_and (a := i.toNat) (b := i.toNat - 1) (by show I _ = I _; exact congrArg I e1) (by show I _ = I _; exact congrArg I e2) (by omega) (by omega)) ?_
      refine gsy (v := .bool (decide ((i.toNat &&& (i.toNat - 1)) = 0))) (gv_of (t := 9) rfl rfl rfl) (decide_eq_true hp2) (n_eql (a := i.toNat &&& (i.toNat - 1)) (b := 0) rfl rfl) ?_
      refine sy (v := .bool (decide ((i.toNat &&& (i.toNat - 1)) = 0))) (y_pickT rfl (decide_eq_true hp2) rfl) ?_
      refine sy (v := .bool (decide ((i.toNat &&& (i.toNat - 1)) = 0))) (y_assign rfl) ?_
      refine c_nil ?_
      refine n_then ?_
      refine wp_ret ?_
      refine e_r1 Try.results100 (rv_t rfl) ?_
      refine ⟨_, rfl, ?_, H0.below⟩
      refine congrArg Value.bool ?_
      unfold okS
      first | (apply decide_eq_decide.2; omega) | (symm; apply decide_eq_false; omega)
    · skip
      refine gno (gv_of (t := 9) rfl rfl rfl) (decide_eq_false hp2) ?_
      refine gno (gv_of (t := 9) rfl rfl rfl) (decide_eq_false hp2) ?_
      refine gno (gv_of (t := 9) rfl rfl rfl) (decide_eq_false hp2) ?_
      refine gno (gv_of (t := 9) rfl rfl rfl) (decide_eq_false hp2) ?_
      refine gno (gv_of (t := 9) rfl rfl rfl) (decide_eq_false hp2) ?_
      refine sy (v := .bool (false)) (y_pickF (v := .bool (false)) rfl (decide_eq_false hp2) rfl) ?_
      refine sy (v := .bool (false)) (y_assign rfl) ?_
      refine c_nil ?_
      refine n_then ?_
      refine wp_ret ?_
      refine e_r1 Try.results100 (rv_t rfl) ?_
      refine ⟨_, rfl, ?_, H0.below⟩
      refine congrArg Value.bool ?_
      unfold okS
      first | (apply decide_eq_decide.2; omega) | (symm; apply decide_eq_false; omega)
  · skip
    refine gno (gv_of (t := 5) rfl rfl rfl) (decide_eq_false hp1) ?_
    refine gno (gv_of (t := 5) rfl rfl rfl) (decide_eq_false hp1) ?_
    refine sy (v := .bool (false)) (y_pickF (v := .bool (false)) rfl (decide_eq_false hp1) rfl) ?_
    refine sy (v := .bool (false)) (y_move rfl) ?_
    refine gno (gv_of (t := 9) rfl rfl rfl) (rfl) ?_
    refine gno (gv_of (t := 9) rfl rfl rfl) (rfl) ?_
    refine gno (gv_of (t := 9) rfl rfl rfl) (rfl) ?_
    refine gno (gv_of (t := 9) rfl rfl rfl) (rfl) ?_
    refine gno (gv_of (t := 9) rfl rfl rfl) (rfl) ?_
    refine sy (v := .bool (false)) (y_pickF (v := .bool (false)) rfl (rfl) rfl) ?_
    refine sy (v := .bool (false)) (y_assign rfl) ?_
    refine c_nil ?_
    refine n_then ?_
    refine wp_ret ?_
    refine e_r1 Try.results100 (rv_t rfl) ?_
    refine ⟨_, rfl, ?_, H0.below⟩
    refine congrArg Value.bool ?_
    unfold okS
    first | (apply decide_eq_decide.2; omega) | (symm; apply decide_eq_false; omega)

theorem right_c (v0 : Value) (l : List UInt8) (w : World) (hR : Rd [] w 1 v0 l.length (l.map B8)) :
    Calls Try.prog 62 (([v0] : List Value).toArray) w (fun e w' => ∃ v, e = .returned v ∧ v = .bool (decide (okS (l.length : Int))) ∧ Below w.heap.size w w') := by
  refine calls_mk Try.func62 rfl 6 Try.ntmps62 rfl ?_
  have H0 : St w [] [] w := St.refl w
  refine c_seq ?_
  refine c_reg ?_
  refine sy (v := .bool (false)) (y_assign (v := .bool (false)) rfl) ?_
  refine c_nil ?_
  refine n_then ?_
  refine c_seq ?_
  refine c_reg ?_
  refine sy (v := v0) (y_move rfl) ?_
  refine sy (v := I ((l.length : Nat) : Int)) (y_lenR Try.underlying23 (hR.st H0) rfl) ?_
  refine st (ow_call fn100 rfl (sized_c (((l.length : Nat) : Int)) _) ⟨rfl, trivial⟩) ?_
  rintro _ w1 ⟨rfl, hB2⟩
  have H3 : St w [] [] w1 := H0.call hB2
  refine sy (v := .bool (decide (okS (((l.length : Nat) : Int))))) (y_assign rfl) ?_
  refine c_nil ?_
  refine n_then ?_
  refine wp_ret ?_
  refine e_r1 Try.results62 (rv_t rfl) ?_
  exact ⟨_, rfl, rfl, H3.below⟩

/-- The first i bytes of a number, laid down. -/
def lz (x : UInt64) : Nat → List UInt8
  | 0 => List.replicate 8 0
  | i + 1 => (lz x i).set i (x >>> UInt64.ofNat (8 * i)).toUInt8
@[simp] theorem lz_length (x : UInt64) : ∀ i, (lz x i).length = 8
  | 0 => by simp [lz]
  | i + 1 => by simp [lz, lz_length x i]
theorem lz_8 (x : UInt64) : lz x 8 = le8 x := by kernel_rfl
@[simp] theorem le8_length (x : UInt64) : (le8 x).length = 8 := rfl

theorem numbers_c (x : UInt64) (h : List UInt8) (w : World) (hh : h.length = 32) :
    Calls Try.prog 101 (([U64 (x), .agg ((h).map B8).toArray] : List Value).toArray) w (fun e w' => ∃ v, e = .returned v ∧ v = .agg ((nw (dg x h)).map U64).toArray ∧ Below w.heap.size w w') := by
  have hle := le8_length x
  refine calls_mk Try.func101 rfl 45 Try.ntmps101 rfl ?_
  have H0 : St w [] [] w := St.refl w
  refine c_seq ?_
  refine c_reg ?_
  refine st (ow_box (l := (h).map B8) H0 rfl rfl) ?_
  rintro _ w2 ⟨g1, rfl, H3⟩
  refine st (ow_alloc (l := (List.replicate 4 0).map U64) H3 zr123 (by simp [Value.cells])) ?_
  rintro _ w5 ⟨g4, rfl, H6⟩
  refine c_nil ?_
  refine n_then ?_
  refine c_seq ?_
  refine c_reg ?_
  refine st (ow_alloc (l := (List.replicate 8 0).map B8) H6 zr151 (by simp [Value.cells])) ?_
  rintro _ w8 ⟨g7, rfl, H9⟩
  refine c_nil ?_
  refine n_then ?_
  refine c_seq ?_
  refine c_seq ?_
  refine c_reg ?_
  refine sy (v := I ((0 : Nat) : Int)) (y_move (v := I ((0 : Nat) : Int)) rfl) ?_
  refine c_nil ?_
  refine n_then ?_
  refine wp_block ?_
  refine c_loop (fun (i : Nat) f10 w11 => f10 0 = U64 (x) ∧ f10 3 = Ad (bs g1) (0) ∧ f10 4 = Ad (bs g4) (0) ∧ f10 5 = Ad (bs g7) (0) ∧ f10 11 = I ((i : Nat) : Int) ∧ i ≤ 8 ∧ St w [] [[(g7, Rw 151 ((lz x i).map B8))], [(g4, Rw 123 ((List.replicate 4 0).map U64))], [(g1, Rw 26 ((h).map B8))]] w11) (fun i => 8 - i) 0 ⟨rfl, rfl, rfl, rfl, rfl, (by omega), H9⟩ ?_
  rintro i f10 w11 ⟨s0_12, s3_12, s4_12, s5_12, s11_12, hf0_12, H12⟩
  have hll := lz_length x i
  refine c_seq ?_
  refine c_reg ?_
  refine sy (v := .bool (decide (i < 8))) (n_lss (a := i) (b := 8) s11_12 rfl) ?_
  refine c_nil ?_
  refine n_then ?_
  refine c_seq ?_
  refine c_if rfl (fun hc13 => ?_) (fun hc13 => ?_)
  · skip
    refine wp_skip ?_
    refine n_then ?_
    refine c_seq ?_
    refine wp_block ?_
    refine c_seq ?_
    refine c_reg ?_
    refine sy (v := I ((i : Nat) : Int)) (y_move s11_12) ?_
    refine sy (v := I ((i : Nat) : Int)) (y_assign rfl) ?_
    refine c_nil ?_
    refine n_then ?_
    refine c_reg ?_
    refine sy (v := I ((i : Nat) : Int)) (y_move rfl) ?_
    refine sy (v := U64 (x)) (y_move s0_12) ?_
    refine sy (v := I ((i : Nat) : Int)) (y_move rfl) ?_
    refine sy (v := I ((8 * i : Nat) : Int)) (n_mul (a := 8) (b := i) rfl rfl (by omega)) ?_
    refine sy (v := U64 (x >>> UInt64.ofNat (8 * i))) (n_shr64 (m := 8 * i) (c := x) rfl rfl (by omega)) ?_
    refine sy (v := B8 ((x >>> UInt64.ofNat (8 * i)).toUInt8)) (y_conv_64_8 Try.underlying59 Try.underlying5 rfl) ?_
    refine sy (v := Ad (bs g7) (0 + i * 1)) (y_ixA (m := i) Try.underlying151 sz5 s5_12 rfl rfl (by omega)) ?_
    refine s0 (ow_storeM (F := B8) (j := i) (fun _ => rfl) H12 sz5 rfl rfl (by omega) (by first | omega | (simp only [List.length_set]; omega))) ?_
    rintro _ w14 H15'
    have H15 : St w [] [[(g7, Rw 151 (((lz x i).set i ((x >>> UInt64.ofNat (8 * i)).toUInt8)).map B8))], [(g4, Rw 123 ((List.replicate 4 0).map U64))], [(g1, Rw 26 ((h).map B8))]] w14 := H15'
    refine c_nil ?_
    refine n_block (n_then ?_)
    refine c_reg ?_
    refine sy (v := I ((i + 1 : Nat) : Int)) (n_add (a := i) (b := 1) s11_12 rfl (by omega)) ?_
    refine sy (v := I ((i + 1 : Nat) : Int)) (y_move rfl) ?_
    refine c_nil ?_
    exact lp_next (i + 1) ⟨s0_12, s3_12, s4_12, s5_12, rfl, (by omega), H15⟩ (by show _ < _; omega)
  · skip
    obtain rfl : i = 8 := by omega
    rw [lz_8] at H12
    refine wp_exit ?_
    refine x_then (x_then (x_hit (n_then ?_)))
    refine c_seq ?_
    refine c_cut (n := 45) (fun f16 w17 => ∃ (gs : Nat), f16 4 = Ad (bs g4) (0) ∧ f16 7 = Ad (bs gs) (0) ∧ St w [] [[(gs, Rw 26 ((dg x h).map B8))], [(g7, Rw 151 ((le8 x).map B8))], [(g4, Rw 123 ((List.replicate 4 0).map U64))], [(g1, Rw 26 ((h).map B8))]] w17) ?_ ?_
    · skip
      refine drawS (.step 0 0 (.step 0 1 (.alt 2 (.alt 3 (.step 1 4 (.step 1 5 .nil)) (.alt 4 (.step 1 3 (.step 1 5 .nil)) .stop)) (.alt 4 (.step 1 2 (.step 1 3 (.step 1 5 .nil))) .stop)))) mixed H12 (by kernel_rfl) (by kernel_rfl) (by kernel_rfl) ?_
      intro w18 H19
      refine pt (v := .slice (some (bs g7)) 8 8) rfl (fun wS HS => y_slA (k1 := .i64) (k2 := .i64) (l := 0) (h := 8) Try.underlying151 sz5 s5_12 (.inl ⟨rfl, rfl⟩) (.inl ⟨rfl, rfl⟩) (by omega) (by omega)) ?_
      refine pt (v := .slice (some (bs g1)) 32 32) rfl (fun wS HS => y_slA (k1 := .i64) (k2 := .i64) (l := 0) (h := 32) Try.underlying26 sz5 s3_12 (.inl ⟨rfl, rfl⟩) (.inl ⟨rfl, rfl⟩) (by omega) (by omega)) ?_
      refine al rfl (ow_buildSlice (pv := [(0, .slice (some (bs g7)) 8 8), (1, .slice (some (bs g1)) 32 32)]) (us := [.slice (some (bs g7)) 8 8, .slice (some (bs g1)) 32 32]) Try.underlying36 sz23 zr23 H19 ⟨⟨rfl, rfl⟩, ⟨rfl, rfl⟩, trivial⟩ (by decide) (fill2 rfl rfl)) ?_ ?_
      · skip
        rintro _ w21 ⟨g20, rfl, H22⟩
        have H23 : St w [] [[(g1, Rw 26 ((h).map B8))], [(g20, Rw 23 ([.slice (some (bs g7)) 8 8, .slice (some (bs g1)) 32 32]))], [(g7, Rw 151 ((le8 x).map B8))], [(g4, Rw 123 ((List.replicate 4 0).map U64))]] w21 := H22.foc 3 rfl rfl
        have H24 : St w [] [[(g4, Rw 123 ((List.replicate 4 0).map U64))], [(g1, Rw 26 ((h).map B8))], [(g20, Rw 23 ([.slice (some (bs g7)) 8 8, .slice (some (bs g1)) 32 32]))], [(g7, Rw 151 ((le8 x).map B8))]] w21 := H23.foc 3 rfl rfl
        have H25 : St w [] [[(g7, Rw 151 ((le8 x).map B8))], [(g4, Rw 123 ((List.replicate 4 0).map U64))], [(g1, Rw 26 ((h).map B8))], [(g20, Rw 23 ([.slice (some (bs g7)) 8 8, .slice (some (bs g1)) 32 32]))]] w21 := H24.foc 3 rfl rfl
        have H26 : St w [] [[(g7, Rw 151 ((le8 x).map B8))], [(g4, Rw 123 ((List.replicate 4 0).map U64))], [(g1, Rw 26 ((h).map B8))]] w21 := H25.take 3 rfl
        refine ⟨H26, ?_⟩
        refine al rfl (ow_call fn75 rfl (ofAll2_c (.slice (some (bs g20)) 2 2) (.slice (some (bs g7)) 8 8) (.slice (some (bs g1)) 32 32) (le8 x) (h) _ (rd_lit H22 0 rfl rfl (by simp [maxLen])) ((rd_arr H22 1 rfl (le8_length x) (by unfold maxLen; omega))).nil ((rd_arr H22 3 rfl (by simp [*]) (by unfold maxLen; omega))).nil (by omega)) ⟨rfl, trivial⟩) ?_ ?_
        · skip
          rintro _ w27 ⟨rfl, hB28⟩
          have H29 : St w [] [[(g20, Rw 23 ([.slice (some (bs g7)) 8 8, .slice (some (bs g1)) 32 32]))], [(g7, Rw 151 ((le8 x).map B8))], [(g4, Rw 123 ((List.replicate 4 0).map U64))], [(g1, Rw 26 ((h).map B8))]] w27 := H22.call hB28
          have H30 : St w [] [[(g1, Rw 26 ((h).map B8))], [(g20, Rw 23 ([.slice (some (bs g7)) 8 8, .slice (some (bs g1)) 32 32]))], [(g7, Rw 151 ((le8 x).map B8))], [(g4, Rw 123 ((List.replicate 4 0).map U64))]] w27 := H29.foc 3 rfl rfl
          have H31 : St w [] [[(g4, Rw 123 ((List.replicate 4 0).map U64))], [(g1, Rw 26 ((h).map B8))], [(g20, Rw 23 ([.slice (some (bs g7)) 8 8, .slice (some (bs g1)) 32 32]))], [(g7, Rw 151 ((le8 x).map B8))]] w27 := H30.foc 3 rfl rfl
          have H32 : St w [] [[(g7, Rw 151 ((le8 x).map B8))], [(g4, Rw 123 ((List.replicate 4 0).map U64))], [(g1, Rw 26 ((h).map B8))], [(g20, Rw 23 ([.slice (some (bs g7)) 8 8, .slice (some (bs g1)) 32 32]))]] w27 := H31.foc 3 rfl rfl
          have H33 : St w [] [[(g7, Rw 151 ((le8 x).map B8))], [(g4, Rw 123 ((List.replicate 4 0).map U64))], [(g1, Rw 26 ((h).map B8))]] w27 := H32.take 3 rfl
          refine ⟨H33, ?_⟩
          refine pl rfl (ow_alloc (l := (List.replicate 32 0).map B8) H29 zr26 (by simp [Value.cells])) ?_
          rintro _ w35 ⟨g34, rfl, H36⟩
          have H37 : St w [] [[(g1, Rw 26 ((h).map B8))], [(g34, Rw 26 ((List.replicate 32 0).map B8))], [(g20, Rw 23 ([.slice (some (bs g7)) 8 8, .slice (some (bs g1)) 32 32]))], [(g7, Rw 151 ((le8 x).map B8))], [(g4, Rw 123 ((List.replicate 4 0).map U64))]] w35 := H36.foc 4 rfl rfl
          have H38 : St w [] [[(g4, Rw 123 ((List.replicate 4 0).map U64))], [(g1, Rw 26 ((h).map B8))], [(g34, Rw 26 ((List.replicate 32 0).map B8))], [(g20, Rw 23 ([.slice (some (bs g7)) 8 8, .slice (some (bs g1)) 32 32]))], [(g7, Rw 151 ((le8 x).map B8))]] w35 := H37.foc 4 rfl rfl
          have H39 : St w [] [[(g7, Rw 151 ((le8 x).map B8))], [(g4, Rw 123 ((List.replicate 4 0).map U64))], [(g1, Rw 26 ((h).map B8))], [(g34, Rw 26 ((List.replicate 32 0).map B8))], [(g20, Rw 23 ([.slice (some (bs g7)) 8 8, .slice (some (bs g1)) 32 32]))]] w35 := H38.foc 4 rfl rfl
          have H40 : St w [] [[(g7, Rw 151 ((le8 x).map B8))], [(g4, Rw 123 ((List.replicate 4 0).map U64))], [(g1, Rw 26 ((h).map B8))]] w35 := H39.take 3 rfl
          refine ⟨H40, ?_⟩
          refine p0 rfl (ow_storeW (us := (sha ((le8 x) ++ h)).map B8) H36 sz26 ((List.length_map _).trans (sha_length _)) rfl rfl (map_one (F := B8) (fun _ => rfl) _) ((List.length_map _).trans List.length_replicate)) ?_
          rintro _ w41 H42'
          have H42 : St w [] [[(g34, Rw 26 ((sha ((le8 x) ++ h)).map B8))], [(g20, Rw 23 ([.slice (some (bs g7)) 8 8, .slice (some (bs g1)) 32 32]))], [(g7, Rw 151 ((le8 x).map B8))], [(g4, Rw 123 ((List.replicate 4 0).map U64))], [(g1, Rw 26 ((h).map B8))]] w41 := H42'
          have H43 : St w [] [[(g1, Rw 26 ((h).map B8))], [(g34, Rw 26 ((sha ((le8 x) ++ h)).map B8))], [(g20, Rw 23 ([.slice (some (bs g7)) 8 8, .slice (some (bs g1)) 32 32]))], [(g7, Rw 151 ((le8 x).map B8))], [(g4, Rw 123 ((List.replicate 4 0).map U64))]] w41 := H42.foc 4 rfl rfl
          have H44 : St w [] [[(g4, Rw 123 ((List.replicate 4 0).map U64))], [(g1, Rw 26 ((h).map B8))], [(g34, Rw 26 ((sha ((le8 x) ++ h)).map B8))], [(g20, Rw 23 ([.slice (some (bs g7)) 8 8, .slice (some (bs g1)) 32 32]))], [(g7, Rw 151 ((le8 x).map B8))]] w41 := H43.foc 4 rfl rfl
          have H45 : St w [] [[(g7, Rw 151 ((le8 x).map B8))], [(g4, Rw 123 ((List.replicate 4 0).map U64))], [(g1, Rw 26 ((h).map B8))], [(g34, Rw 26 ((sha ((le8 x) ++ h)).map B8))], [(g20, Rw 23 ([.slice (some (bs g7)) 8 8, .slice (some (bs g1)) 32 32]))]] w41 := H44.foc 4 rfl rfl
          have H46 : St w [] [[(g7, Rw 151 ((le8 x).map B8))], [(g4, Rw 123 ((List.replicate 4 0).map U64))], [(g1, Rw 26 ((h).map B8))]] w41 := H45.take 3 rfl
          refine ⟨H46, ?_⟩
          refine p_nil ?_
          have H47 : St w [] [[(g1, Rw 26 ((h).map B8))], [(g34, Rw 26 ((sha ((le8 x) ++ h)).map B8))], [(g20, Rw 23 ([.slice (some (bs g7)) 8 8, .slice (some (bs g1)) 32 32]))], [(g7, Rw 151 ((le8 x).map B8))], [(g4, Rw 123 ((List.replicate 4 0).map U64))]] w41 := H42.foc 4 rfl rfl
          have H48 : St w [] [[(g4, Rw 123 ((List.replicate 4 0).map U64))], [(g1, Rw 26 ((h).map B8))], [(g34, Rw 26 ((sha ((le8 x) ++ h)).map B8))], [(g20, Rw 23 ([.slice (some (bs g7)) 8 8, .slice (some (bs g1)) 32 32]))], [(g7, Rw 151 ((le8 x).map B8))]] w41 := H47.foc 4 rfl rfl
          have H49 : St w [] [[(g7, Rw 151 ((le8 x).map B8))], [(g4, Rw 123 ((List.replicate 4 0).map U64))], [(g1, Rw 26 ((h).map B8))], [(g34, Rw 26 ((sha ((le8 x) ++ h)).map B8))], [(g20, Rw 23 ([.slice (some (bs g7)) 8 8, .slice (some (bs g1)) 32 32]))]] w41 := H48.foc 4 rfl rfl
          have H50 : St w [] [[(g34, Rw 26 ((sha ((le8 x) ++ h)).map B8))], [(g7, Rw 151 ((le8 x).map B8))], [(g4, Rw 123 ((List.replicate 4 0).map U64))], [(g1, Rw 26 ((h).map B8))], [(g20, Rw 23 ([.slice (some (bs g7)) 8 8, .slice (some (bs g1)) 32 32]))]] w41 := H49.foc 3 rfl rfl
          have H51 : St w [] [[(g34, Rw 26 ((sha ((le8 x) ++ h)).map B8))], [(g7, Rw 151 ((le8 x).map B8))], [(g4, Rw 123 ((List.replicate 4 0).map U64))], [(g1, Rw 26 ((h).map B8))]] w41 := H50.take 4 rfl
          exact qj_n ⟨g34, s4_12, rfl, H51⟩
        refine al rfl (ow_alloc (l := (List.replicate 32 0).map B8) H22 zr26 (by simp [Value.cells])) ?_ ?_
        · skip
          rintro _ w53 ⟨g52, rfl, H54⟩
          have H55 : St w [] [[(g1, Rw 26 ((h).map B8))], [(g52, Rw 26 ((List.replicate 32 0).map B8))], [(g20, Rw 23 ([.slice (some (bs g7)) 8 8, .slice (some (bs g1)) 32 32]))], [(g7, Rw 151 ((le8 x).map B8))], [(g4, Rw 123 ((List.replicate 4 0).map U64))]] w53 := H54.foc 4 rfl rfl
          have H56 : St w [] [[(g4, Rw 123 ((List.replicate 4 0).map U64))], [(g1, Rw 26 ((h).map B8))], [(g52, Rw 26 ((List.replicate 32 0).map B8))], [(g20, Rw 23 ([.slice (some (bs g7)) 8 8, .slice (some (bs g1)) 32 32]))], [(g7, Rw 151 ((le8 x).map B8))]] w53 := H55.foc 4 rfl rfl
          have H57 : St w [] [[(g7, Rw 151 ((le8 x).map B8))], [(g4, Rw 123 ((List.replicate 4 0).map U64))], [(g1, Rw 26 ((h).map B8))], [(g52, Rw 26 ((List.replicate 32 0).map B8))], [(g20, Rw 23 ([.slice (some (bs g7)) 8 8, .slice (some (bs g1)) 32 32]))]] w53 := H56.foc 4 rfl rfl
          have H58 : St w [] [[(g7, Rw 151 ((le8 x).map B8))], [(g4, Rw 123 ((List.replicate 4 0).map U64))], [(g1, Rw 26 ((h).map B8))]] w53 := H57.take 3 rfl
          refine ⟨H58, ?_⟩
          refine pl rfl (ow_call fn75 rfl (ofAll2_c (.slice (some (bs g20)) 2 2) (.slice (some (bs g7)) 8 8) (.slice (some (bs g1)) 32 32) (le8 x) (h) _ (rd_lit H54 1 rfl rfl (by simp [maxLen])) ((rd_arr H54 2 rfl (le8_length x) (by unfold maxLen; omega))).nil ((rd_arr H54 4 rfl (by simp [*]) (by unfold maxLen; omega))).nil (by omega)) ⟨rfl, trivial⟩) ?_
          rintro _ w59 ⟨rfl, hB60⟩
          have H61 : St w [] [[(g52, Rw 26 ((List.replicate 32 0).map B8))], [(g20, Rw 23 ([.slice (some (bs g7)) 8 8, .slice (some (bs g1)) 32 32]))], [(g7, Rw 151 ((le8 x).map B8))], [(g4, Rw 123 ((List.replicate 4 0).map U64))], [(g1, Rw 26 ((h).map B8))]] w59 := H54.call hB60
          have H62 : St w [] [[(g1, Rw 26 ((h).map B8))], [(g52, Rw 26 ((List.replicate 32 0).map B8))], [(g20, Rw 23 ([.slice (some (bs g7)) 8 8, .slice (some (bs g1)) 32 32]))], [(g7, Rw 151 ((le8 x).map B8))], [(g4, Rw 123 ((List.replicate 4 0).map U64))]] w59 := H61.foc 4 rfl rfl
          have H63 : St w [] [[(g4, Rw 123 ((List.replicate 4 0).map U64))], [(g1, Rw 26 ((h).map B8))], [(g52, Rw 26 ((List.replicate 32 0).map B8))], [(g20, Rw 23 ([.slice (some (bs g7)) 8 8, .slice (some (bs g1)) 32 32]))], [(g7, Rw 151 ((le8 x).map B8))]] w59 := H62.foc 4 rfl rfl
          have H64 : St w [] [[(g7, Rw 151 ((le8 x).map B8))], [(g4, Rw 123 ((List.replicate 4 0).map U64))], [(g1, Rw 26 ((h).map B8))], [(g52, Rw 26 ((List.replicate 32 0).map B8))], [(g20, Rw 23 ([.slice (some (bs g7)) 8 8, .slice (some (bs g1)) 32 32]))]] w59 := H63.foc 4 rfl rfl
          have H65 : St w [] [[(g7, Rw 151 ((le8 x).map B8))], [(g4, Rw 123 ((List.replicate 4 0).map U64))], [(g1, Rw 26 ((h).map B8))]] w59 := H64.take 3 rfl
          refine ⟨H65, ?_⟩
          refine p0 rfl (ow_storeW (us := (sha ((le8 x) ++ h)).map B8) H61 sz26 ((List.length_map _).trans (sha_length _)) rfl rfl (map_one (F := B8) (fun _ => rfl) _) ((List.length_map _).trans List.length_replicate)) ?_
          rintro _ w66 H67'
          have H67 : St w [] [[(g52, Rw 26 ((sha ((le8 x) ++ h)).map B8))], [(g20, Rw 23 ([.slice (some (bs g7)) 8 8, .slice (some (bs g1)) 32 32]))], [(g7, Rw 151 ((le8 x).map B8))], [(g4, Rw 123 ((List.replicate 4 0).map U64))], [(g1, Rw 26 ((h).map B8))]] w66 := H67'
          have H68 : St w [] [[(g1, Rw 26 ((h).map B8))], [(g52, Rw 26 ((sha ((le8 x) ++ h)).map B8))], [(g20, Rw 23 ([.slice (some (bs g7)) 8 8, .slice (some (bs g1)) 32 32]))], [(g7, Rw 151 ((le8 x).map B8))], [(g4, Rw 123 ((List.replicate 4 0).map U64))]] w66 := H67.foc 4 rfl rfl
          have H69 : St w [] [[(g4, Rw 123 ((List.replicate 4 0).map U64))], [(g1, Rw 26 ((h).map B8))], [(g52, Rw 26 ((sha ((le8 x) ++ h)).map B8))], [(g20, Rw 23 ([.slice (some (bs g7)) 8 8, .slice (some (bs g1)) 32 32]))], [(g7, Rw 151 ((le8 x).map B8))]] w66 := H68.foc 4 rfl rfl
          have H70 : St w [] [[(g7, Rw 151 ((le8 x).map B8))], [(g4, Rw 123 ((List.replicate 4 0).map U64))], [(g1, Rw 26 ((h).map B8))], [(g52, Rw 26 ((sha ((le8 x) ++ h)).map B8))], [(g20, Rw 23 ([.slice (some (bs g7)) 8 8, .slice (some (bs g1)) 32 32]))]] w66 := H69.foc 4 rfl rfl
          have H71 : St w [] [[(g7, Rw 151 ((le8 x).map B8))], [(g4, Rw 123 ((List.replicate 4 0).map U64))], [(g1, Rw 26 ((h).map B8))]] w66 := H70.take 3 rfl
          refine ⟨H71, ?_⟩
          refine p_nil ?_
          have H72 : St w [] [[(g1, Rw 26 ((h).map B8))], [(g52, Rw 26 ((sha ((le8 x) ++ h)).map B8))], [(g20, Rw 23 ([.slice (some (bs g7)) 8 8, .slice (some (bs g1)) 32 32]))], [(g7, Rw 151 ((le8 x).map B8))], [(g4, Rw 123 ((List.replicate 4 0).map U64))]] w66 := H67.foc 4 rfl rfl
          have H73 : St w [] [[(g4, Rw 123 ((List.replicate 4 0).map U64))], [(g1, Rw 26 ((h).map B8))], [(g52, Rw 26 ((sha ((le8 x) ++ h)).map B8))], [(g20, Rw 23 ([.slice (some (bs g7)) 8 8, .slice (some (bs g1)) 32 32]))], [(g7, Rw 151 ((le8 x).map B8))]] w66 := H72.foc 4 rfl rfl
          have H74 : St w [] [[(g7, Rw 151 ((le8 x).map B8))], [(g4, Rw 123 ((List.replicate 4 0).map U64))], [(g1, Rw 26 ((h).map B8))], [(g52, Rw 26 ((sha ((le8 x) ++ h)).map B8))], [(g20, Rw 23 ([.slice (some (bs g7)) 8 8, .slice (some (bs g1)) 32 32]))]] w66 := H73.foc 4 rfl rfl
          have H75 : St w [] [[(g52, Rw 26 ((sha ((le8 x) ++ h)).map B8))], [(g7, Rw 151 ((le8 x).map B8))], [(g4, Rw 123 ((List.replicate 4 0).map U64))], [(g1, Rw 26 ((h).map B8))], [(g20, Rw 23 ([.slice (some (bs g7)) 8 8, .slice (some (bs g1)) 32 32]))]] w66 := H74.foc 3 rfl rfl
          have H76 : St w [] [[(g52, Rw 26 ((sha ((le8 x) ++ h)).map B8))], [(g7, Rw 151 ((le8 x).map B8))], [(g4, Rw 123 ((List.replicate 4 0).map U64))], [(g1, Rw 26 ((h).map B8))]] w66 := H75.take 4 rfl
          exact qj_n ⟨g52, s4_12, rfl, H76⟩
        exact a_stop
      refine al rfl (ow_alloc (l := (List.replicate 32 0).map B8) H19 zr26 (by simp [Value.cells])) ?_ ?_
      · skip
        rintro _ w78 ⟨g77, rfl, H79⟩
        have H80 : St w [] [[(g1, Rw 26 ((h).map B8))], [(g77, Rw 26 ((List.replicate 32 0).map B8))], [(g7, Rw 151 ((le8 x).map B8))], [(g4, Rw 123 ((List.replicate 4 0).map U64))]] w78 := H79.foc 3 rfl rfl
        have H81 : St w [] [[(g4, Rw 123 ((List.replicate 4 0).map U64))], [(g1, Rw 26 ((h).map B8))], [(g77, Rw 26 ((List.replicate 32 0).map B8))], [(g7, Rw 151 ((le8 x).map B8))]] w78 := H80.foc 3 rfl rfl
        have H82 : St w [] [[(g7, Rw 151 ((le8 x).map B8))], [(g4, Rw 123 ((List.replicate 4 0).map U64))], [(g1, Rw 26 ((h).map B8))], [(g77, Rw 26 ((List.replicate 32 0).map B8))]] w78 := H81.foc 3 rfl rfl
        have H83 : St w [] [[(g7, Rw 151 ((le8 x).map B8))], [(g4, Rw 123 ((List.replicate 4 0).map U64))], [(g1, Rw 26 ((h).map B8))]] w78 := H82.take 3 rfl
        refine ⟨H83, ?_⟩
        refine pl rfl (ow_buildSlice (pv := [(0, .slice (some (bs g7)) 8 8), (1, .slice (some (bs g1)) 32 32)]) (us := [.slice (some (bs g7)) 8 8, .slice (some (bs g1)) 32 32]) Try.underlying36 sz23 zr23 H79 ⟨⟨rfl, rfl⟩, ⟨rfl, rfl⟩, trivial⟩ (by decide) (fill2 rfl rfl)) ?_
        rintro _ w85 ⟨g84, rfl, H86⟩
        have H87 : St w [] [[(g1, Rw 26 ((h).map B8))], [(g84, Rw 23 ([.slice (some (bs g7)) 8 8, .slice (some (bs g1)) 32 32]))], [(g77, Rw 26 ((List.replicate 32 0).map B8))], [(g7, Rw 151 ((le8 x).map B8))], [(g4, Rw 123 ((List.replicate 4 0).map U64))]] w85 := H86.foc 4 rfl rfl
        have H88 : St w [] [[(g4, Rw 123 ((List.replicate 4 0).map U64))], [(g1, Rw 26 ((h).map B8))], [(g84, Rw 23 ([.slice (some (bs g7)) 8 8, .slice (some (bs g1)) 32 32]))], [(g77, Rw 26 ((List.replicate 32 0).map B8))], [(g7, Rw 151 ((le8 x).map B8))]] w85 := H87.foc 4 rfl rfl
        have H89 : St w [] [[(g7, Rw 151 ((le8 x).map B8))], [(g4, Rw 123 ((List.replicate 4 0).map U64))], [(g1, Rw 26 ((h).map B8))], [(g84, Rw 23 ([.slice (some (bs g7)) 8 8, .slice (some (bs g1)) 32 32]))], [(g77, Rw 26 ((List.replicate 32 0).map B8))]] w85 := H88.foc 4 rfl rfl
        have H90 : St w [] [[(g7, Rw 151 ((le8 x).map B8))], [(g4, Rw 123 ((List.replicate 4 0).map U64))], [(g1, Rw 26 ((h).map B8))]] w85 := H89.take 3 rfl
        refine ⟨H90, ?_⟩
        refine pl rfl (ow_call fn75 rfl (ofAll2_c (.slice (some (bs g84)) 2 2) (.slice (some (bs g7)) 8 8) (.slice (some (bs g1)) 32 32) (le8 x) (h) _ (rd_lit H86 0 rfl rfl (by simp [maxLen])) ((rd_arr H86 2 rfl (le8_length x) (by unfold maxLen; omega))).nil ((rd_arr H86 4 rfl (by simp [*]) (by unfold maxLen; omega))).nil (by omega)) ⟨rfl, trivial⟩) ?_
        rintro _ w91 ⟨rfl, hB92⟩
        have H93 : St w [] [[(g84, Rw 23 ([.slice (some (bs g7)) 8 8, .slice (some (bs g1)) 32 32]))], [(g77, Rw 26 ((List.replicate 32 0).map B8))], [(g7, Rw 151 ((le8 x).map B8))], [(g4, Rw 123 ((List.replicate 4 0).map U64))], [(g1, Rw 26 ((h).map B8))]] w91 := H86.call hB92
        have H94 : St w [] [[(g1, Rw 26 ((h).map B8))], [(g84, Rw 23 ([.slice (some (bs g7)) 8 8, .slice (some (bs g1)) 32 32]))], [(g77, Rw 26 ((List.replicate 32 0).map B8))], [(g7, Rw 151 ((le8 x).map B8))], [(g4, Rw 123 ((List.replicate 4 0).map U64))]] w91 := H93.foc 4 rfl rfl
        have H95 : St w [] [[(g4, Rw 123 ((List.replicate 4 0).map U64))], [(g1, Rw 26 ((h).map B8))], [(g84, Rw 23 ([.slice (some (bs g7)) 8 8, .slice (some (bs g1)) 32 32]))], [(g77, Rw 26 ((List.replicate 32 0).map B8))], [(g7, Rw 151 ((le8 x).map B8))]] w91 := H94.foc 4 rfl rfl
        have H96 : St w [] [[(g7, Rw 151 ((le8 x).map B8))], [(g4, Rw 123 ((List.replicate 4 0).map U64))], [(g1, Rw 26 ((h).map B8))], [(g84, Rw 23 ([.slice (some (bs g7)) 8 8, .slice (some (bs g1)) 32 32]))], [(g77, Rw 26 ((List.replicate 32 0).map B8))]] w91 := H95.foc 4 rfl rfl
        have H97 : St w [] [[(g7, Rw 151 ((le8 x).map B8))], [(g4, Rw 123 ((List.replicate 4 0).map U64))], [(g1, Rw 26 ((h).map B8))]] w91 := H96.take 3 rfl
        refine ⟨H97, ?_⟩
        have H98 : St w [] [[(g77, Rw 26 ((List.replicate 32 0).map B8))], [(g84, Rw 23 ([.slice (some (bs g7)) 8 8, .slice (some (bs g1)) 32 32]))], [(g7, Rw 151 ((le8 x).map B8))], [(g4, Rw 123 ((List.replicate 4 0).map U64))], [(g1, Rw 26 ((h).map B8))]] w91 := H93.foc 1 rfl rfl
        refine p0 rfl (ow_storeW (us := (sha ((le8 x) ++ h)).map B8) H98 sz26 ((List.length_map _).trans (sha_length _)) rfl rfl (map_one (F := B8) (fun _ => rfl) _) ((List.length_map _).trans List.length_replicate)) ?_
        rintro _ w99 H100'
        have H100 : St w [] [[(g77, Rw 26 ((sha ((le8 x) ++ h)).map B8))], [(g84, Rw 23 ([.slice (some (bs g7)) 8 8, .slice (some (bs g1)) 32 32]))], [(g7, Rw 151 ((le8 x).map B8))], [(g4, Rw 123 ((List.replicate 4 0).map U64))], [(g1, Rw 26 ((h).map B8))]] w99 := H100'
        have H101 : St w [] [[(g1, Rw 26 ((h).map B8))], [(g77, Rw 26 ((sha ((le8 x) ++ h)).map B8))], [(g84, Rw 23 ([.slice (some (bs g7)) 8 8, .slice (some (bs g1)) 32 32]))], [(g7, Rw 151 ((le8 x).map B8))], [(g4, Rw 123 ((List.replicate 4 0).map U64))]] w99 := H100.foc 4 rfl rfl
        have H102 : St w [] [[(g4, Rw 123 ((List.replicate 4 0).map U64))], [(g1, Rw 26 ((h).map B8))], [(g77, Rw 26 ((sha ((le8 x) ++ h)).map B8))], [(g84, Rw 23 ([.slice (some (bs g7)) 8 8, .slice (some (bs g1)) 32 32]))], [(g7, Rw 151 ((le8 x).map B8))]] w99 := H101.foc 4 rfl rfl
        have H103 : St w [] [[(g7, Rw 151 ((le8 x).map B8))], [(g4, Rw 123 ((List.replicate 4 0).map U64))], [(g1, Rw 26 ((h).map B8))], [(g77, Rw 26 ((sha ((le8 x) ++ h)).map B8))], [(g84, Rw 23 ([.slice (some (bs g7)) 8 8, .slice (some (bs g1)) 32 32]))]] w99 := H102.foc 4 rfl rfl
        have H104 : St w [] [[(g7, Rw 151 ((le8 x).map B8))], [(g4, Rw 123 ((List.replicate 4 0).map U64))], [(g1, Rw 26 ((h).map B8))]] w99 := H103.take 3 rfl
        refine ⟨H104, ?_⟩
        refine p_nil ?_
        have H105 : St w [] [[(g1, Rw 26 ((h).map B8))], [(g77, Rw 26 ((sha ((le8 x) ++ h)).map B8))], [(g84, Rw 23 ([.slice (some (bs g7)) 8 8, .slice (some (bs g1)) 32 32]))], [(g7, Rw 151 ((le8 x).map B8))], [(g4, Rw 123 ((List.replicate 4 0).map U64))]] w99 := H100.foc 4 rfl rfl
        have H106 : St w [] [[(g4, Rw 123 ((List.replicate 4 0).map U64))], [(g1, Rw 26 ((h).map B8))], [(g77, Rw 26 ((sha ((le8 x) ++ h)).map B8))], [(g84, Rw 23 ([.slice (some (bs g7)) 8 8, .slice (some (bs g1)) 32 32]))], [(g7, Rw 151 ((le8 x).map B8))]] w99 := H105.foc 4 rfl rfl
        have H107 : St w [] [[(g7, Rw 151 ((le8 x).map B8))], [(g4, Rw 123 ((List.replicate 4 0).map U64))], [(g1, Rw 26 ((h).map B8))], [(g77, Rw 26 ((sha ((le8 x) ++ h)).map B8))], [(g84, Rw 23 ([.slice (some (bs g7)) 8 8, .slice (some (bs g1)) 32 32]))]] w99 := H106.foc 4 rfl rfl
        have H108 : St w [] [[(g77, Rw 26 ((sha ((le8 x) ++ h)).map B8))], [(g7, Rw 151 ((le8 x).map B8))], [(g4, Rw 123 ((List.replicate 4 0).map U64))], [(g1, Rw 26 ((h).map B8))], [(g84, Rw 23 ([.slice (some (bs g7)) 8 8, .slice (some (bs g1)) 32 32]))]] w99 := H107.foc 3 rfl rfl
        have H109 : St w [] [[(g77, Rw 26 ((sha ((le8 x) ++ h)).map B8))], [(g7, Rw 151 ((le8 x).map B8))], [(g4, Rw 123 ((List.replicate 4 0).map U64))], [(g1, Rw 26 ((h).map B8))]] w99 := H108.take 4 rfl
        exact qj_n ⟨g77, s4_12, rfl, H109⟩
      exact a_stop
    · skip
      rintro f16 w17 ⟨gs, s4_110, s7_110, H110⟩
      refine n_then ?_
      refine c_seq ?_
      refine c_reg ?_
      refine st (ow_alloc (l := (List.replicate 4 0).map U64) H110 zr123 (by simp [Value.cells])) ?_
      rintro _ w112 ⟨g111, rfl, H113⟩
      refine c_nil ?_
      refine n_then ?_
      refine c_seq ?_
      refine c_seq ?_
      refine c_reg ?_
      refine sy (v := .agg ((dg x h).map B8).toArray) (y_loadA (us := (dg x h).map B8) ag26 sz26 ((List.length_map _).trans (dg_length x h)) s7_110 (fun j u hu => (H113.cell 1 rfl (by rw [Nat.zero_add]; exact hu)))) ?_
      refine sy (v := I ((0 : Nat) : Int)) (y_move (v := I ((0 : Nat) : Int)) rfl) ?_
      refine c_nil ?_
      refine n_then ?_
      refine wp_block ?_
      refine c_loop (fun (i : Nat) f114 w115 => f114 4 = Ad (bs g4) (0) ∧ f114 8 = Ad (bs g111) (0) ∧ f114 26 = .agg ((dg x h).map B8).toArray ∧ f114 27 = I ((i : Nat) : Int) ∧ i ≤ 32 ∧ St w [] [[(g111, Rw 123 ((nb (dg x h) i).map U64))], [(gs, Rw 26 ((dg x h).map B8))], [(g7, Rw 151 ((le8 x).map B8))], [(g4, Rw 123 ((List.replicate 4 0).map U64))], [(g1, Rw 26 ((h).map B8))]] w115) (fun i => 32 - i) 0 ⟨s4_110, rfl, rfl, rfl, (by omega), H113⟩ ?_
      rintro i f114 w115 ⟨s4_116, s8_116, s26_116, s27_116, hf0_116, H116⟩
      have hnl := nb_length (dg x h) i
      have hdl := dg_length x h
      refine c_seq ?_
      refine c_reg ?_
      refine sy (v := .bool (decide (i < 32))) (n_lss (a := i) (b := 32) s27_116 rfl) ?_
      refine c_nil ?_
      refine n_then ?_
      refine c_seq ?_
      refine c_if rfl (fun hc117 => ?_) (fun hc117 => ?_)
      · skip
        refine wp_skip ?_
        refine n_then ?_
        refine c_seq ?_
        refine wp_block ?_
        refine c_seq ?_
        refine c_reg ?_
        refine sy (v := I ((i : Nat) : Int)) (y_move s27_116) ?_
        refine sy (v := B8 ((dg x h).getD i 0)) (y_ixAgg (m := i) Try.underlying26 sz5 sc5 s26_116 s27_116 rfl (by omega) (map_get B8 0 (by omega))) ?_
        refine sy (v := I ((i : Nat) : Int)) (y_assign rfl) ?_
        refine sy (v := B8 ((dg x h).getD i 0)) (y_assign rfl) ?_
        refine c_nil ?_
        refine n_then ?_
        refine drawS (.step 0 0 (.step 0 1 (.step 0 2 (.step 0 3 (.step 0 4 (.step 0 5 (.step 0 6 (.step 0 7 (.step 0 8 (.step 0 9 (.step 0 10 (.step 2 11 (.step 2 12 .nil))))))))))))) mixed H116 (by kernel_rfl) (by kernel_rfl) (by kernel_rfl) ?_
        intro w118 H119
        refine pt (v := I ((i : Nat) : Int)) rfl (fun wS HS => y_move rfl) ?_
        refine pt (v := I ((i / 8 : Nat) : Int)) rfl (fun wS HS => n_quo (a := i) (b := 8) rfl rfl (by omega) (by omega)) ?_
        refine pt (v := Ad (bs g111) (0 + (i / 8) * 1)) rfl (fun wS HS => y_ixA (m := i / 8) Try.underlying123 sz59 s8_116 rfl rfl (by omega)) ?_
        refine pt (v := U64 ((nb (dg x h) i).getD (i / 8) 0)) rfl (fun wS HS => y_load sc59 rfl (HS.cell 0 rfl (by simp only [Nat.zero_add, Nat.mul_one]; exact map_get U64 0 (by omega)))) ?_
        refine pt (v := B8 ((dg x h).getD i 0)) rfl (fun wS HS => y_move rfl) ?_
        refine pt (v := U64 (((dg x h).getD i 0).toUInt64)) rfl (fun wS HS => y_conv_8_64 Try.underlying5 Try.underlying59 rfl) ?_
        refine pt (v := I ((i : Nat) : Int)) rfl (fun wS HS => y_move rfl) ?_
        refine pt (v := I ((i % 8 : Nat) : Int)) rfl (fun wS HS => n_rem (a := i) (b := 8) rfl rfl (by omega)) ?_
        refine pt (v := I (((i % 8) * 8 : Nat) : Int)) rfl (fun wS HS => n_mul (a := i % 8) (b := 8) rfl rfl (by omega)) ?_
        refine pt (v := U64 ((((dg x h).getD i 0).toUInt64) <<< UInt64.ofNat ((i % 8) * 8))) rfl (fun wS HS => n_shl64 (m := (i % 8) * 8) (c := ((dg x h).getD i 0).toUInt64) rfl rfl (by omega)) ?_
        refine pt (v := U64 (((nb (dg x h) i).getD (i / 8) 0) ||| ((((dg x h).getD i 0).toUInt64) <<< UInt64.ofNat ((i % 8) * 8)))) rfl (fun wS HS => y_or64 (a := (nb (dg x h) i).getD (i / 8) 0) (b := (((dg x h).getD i 0).toUInt64) <<< UInt64.ofNat ((i % 8) * 8)) rfl rfl) ?_
        refine tly (v := Ad (bs g111) (0 + (i / 8) * 1)) rfl (y_ixA (m := i / 8) Try.underlying123 sz59 s8_116 rfl rfl (by omega)) ?_
        refine t0 rfl (ow_storeM (F := U64) (j := (i / 8)) (fun _ => rfl) H119 sz59 rfl rfl (by omega) (by first | omega | (simp only [List.length_set]; omega))) ?_
        rintro _ w120 H121'
        have H121 : St w [] [[(g111, Rw 123 (((nb (dg x h) i).set (i / 8) (((nb (dg x h) i).getD (i / 8) 0) ||| ((((dg x h).getD i 0).toUInt64) <<< UInt64.ofNat ((i % 8) * 8)))).map U64))], [(gs, Rw 26 ((dg x h).map B8))], [(g7, Rw 151 ((le8 x).map B8))], [(g4, Rw 123 ((List.replicate 4 0).map U64))], [(g1, Rw 26 ((h).map B8))]] w120 := H121'
        refine p_nil ?_
        refine n_block (n_then ?_)
        refine c_reg ?_
        refine sy (v := I ((i + 1 : Nat) : Int)) (n_add (a := i) (b := 1) s27_116 rfl (by omega)) ?_
        refine sy (v := I ((i + 1 : Nat) : Int)) (y_move rfl) ?_
        refine c_nil ?_
        exact lp_next (i + 1) ⟨s4_116, s8_116, s26_116, rfl, (by omega), H121⟩ (by show _ < _; omega)
      · skip
        obtain rfl : i = 32 := by omega
        refine wp_exit ?_
        refine x_then (x_then (x_hit (n_then ?_)))
        refine c_seq ?_
        refine c_reg ?_
        refine sy (v := .agg ((nb (dg x h) 32).map U64).toArray) (y_loadA (us := (nb (dg x h) 32).map U64) ag123 sz123 (by simp [*]) s8_116 (fun j u hu => (H116.cell 0 rfl (by rw [Nat.zero_add]; exact hu)))) ?_
        have H122 : St w [] [[(g4, Rw 123 ((List.replicate 4 0).map U64))], [(g111, Rw 123 ((nb (dg x h) 32).map U64))], [(gs, Rw 26 ((dg x h).map B8))], [(g7, Rw 151 ((le8 x).map B8))], [(g1, Rw 26 ((h).map B8))]] w115 := H116.foc 3 rfl rfl
        refine s0 (ow_storeW (us := (nb (dg x h) 32).map U64) H122 sz123 (by simp [*]) s4_116 rfl (map_one (F := U64) (fun _ => rfl) _) (by simp [*])) ?_
        rintro _ w123 H124'
        have H124 : St w [] [[(g4, Rw 123 ((nb (dg x h) 32).map U64))], [(g111, Rw 123 ((nb (dg x h) 32).map U64))], [(gs, Rw 26 ((dg x h).map B8))], [(g7, Rw 151 ((le8 x).map B8))], [(g1, Rw 26 ((h).map B8))]] w123 := H124'
        refine c_nil ?_
        refine n_then ?_
        refine wp_ret ?_
        refine e_r1 Try.results101 (rv_b H124 (i := 0) rfl ag123 sz123 (by simp [*]) s4_116) ?_
        refine ⟨_, rfl, ?_, H124.below⟩
        rw [nb_32 (dg_length x h)]

theorem take_snocN {h : List Nat} {i : Nat} (hi : i < h.length) : h.take (i + 1) = h.take i ++ [h.getD i 0] := by
  rw [List.take_add_one, List.getD_eq_getElem?_getD, List.getElem?_eq_getElem hi]; rfl
theorem u64_ne {k : Nat} (h : 0 < k) (h2 : k < 18446744073709551616) : u64 (k : Int) ≠ 0 := by
  intro e
  have : (u64 (k : Int)).toNat = 0 := by rw [e]; rfl
  simp only [u64, UInt64.toNat_ofNat'] at this
  omega

theorem places_c (x : UInt64) (h : List UInt8) (z : Nat) (w : World) (hh : h.length = 32) (hok : okS (z : Int)) :
    Calls Try.prog 42 (([U64 (x), .agg ((h).map B8).toArray, I ((z : Nat) : Int)] : List Value).toArray) w (fun e w' => ∃ v, e = .returned v ∧ ∃ E, OS 3 1 v (plc (dg x h) z).length ((plc (dg x h) z).map IN) E ∧ St w [] [E] w') := by
  have hz8 := okS_le hok
  have hsg : (u64 ((8 * z : Nat) : Int)) ≠ 0 := u64_ne (by omega) (by omega)
  refine calls_mk Try.func42 rfl 32 Try.ntmps42 rfl ?_
  have H0 : St w [] [] w := St.refl w
  refine c_seq ?_
  refine c_reg ?_
  refine st (ow_box (l := (h).map B8) H0 rfl rfl) ?_
  rintro _ w2 ⟨g1, rfl, H3⟩
  refine sy (v := .slice none 0 0) (y_assign (v := .slice none 0 0) rfl) ?_
  refine c_nil ?_
  refine n_then ?_
  refine c_seq ?_
  refine c_seq ?_
  refine c_reg ?_
  refine sy (v := I ((z : Nat) : Int)) (y_move rfl) ?_
  refine st (ow_call fn100 rfl (sized_c (((z : Nat) : Int)) _) ⟨rfl, trivial⟩) ?_
  rintro _ w4 ⟨rfl, hB5⟩
  have H6 : St w [] [[(g1, Rw 26 ((h).map B8))]] w4 := H3.call hB5
  refine sy (v := .bool (decide (¬ (okS (((z : Nat) : Int)))))) (y_notP rfl) ?_
  refine c_nil ?_
  refine n_then ?_
  have hq7 : ¬ (¬ (okS (((z : Nat) : Int)))) := (not_not_intro hok)
  refine c_f rfl (decide_eq_false hq7) ?_
  refine wp_skip ?_
  refine n_then ?_
  refine c_seq ?_
  refine c_reg ?_
  refine sy (v := .slice none 0 0) (y_assign (v := .slice none 0 0) rfl) ?_
  refine c_nil ?_
  refine n_then ?_
  refine c_seq ?_
  refine c_reg ?_
  refine sy (v := U64 (x)) (y_move rfl) ?_
  refine sy (v := .agg ((h).map B8).toArray) (y_loadA (us := (h).map B8) ag26 sz26 ((List.length_map _).trans hh) rfl (fun j u hu => (H6.cell 0 rfl (by rw [Nat.zero_add]; exact hu)))) ?_
  refine st (ow_call fn101 rfl (numbers_c (x) (h) _ hh) ⟨rfl, rfl, trivial⟩) ?_
  rintro _ w8 ⟨rfl, hB9⟩
  have H10 : St w [] [[(g1, Rw 26 ((h).map B8))]] w8 := H6.call hB9
  refine st (ow_alloc (l := (List.replicate 4 0).map U64) H10 zr123 (by simp [Value.cells])) ?_
  rintro _ w12 ⟨g11, rfl, H13⟩
  refine s0 (ow_storeW (us := (nw (dg (x) (h))).map U64) H13 sz123 ((List.length_map _).trans (rfl)) rfl rfl (map_one (F := U64) (fun _ => rfl) _) ((List.length_map _).trans List.length_replicate)) ?_
  rintro _ w14 H15'
  have H15 : St w [] [[(g11, Rw 123 ((nw (dg (x) (h))).map U64))], [(g1, Rw 26 ((h).map B8))]] w14 := H15'
  refine c_nil ?_
  refine n_then ?_
  refine c_seq ?_
  refine c_seq ?_
  refine c_reg ?_
  refine sy (v := I ((0 : Nat) : Int)) (y_move (v := I ((0 : Nat) : Int)) rfl) ?_
  refine c_nil ?_
  refine n_then ?_
  refine wp_block ?_
  refine c_loop (fun (i : Nat) f16 w17 => ∃ (tv : Value), ∃ (ET : Part), f16 2 = I ((z : Nat) : Int) ∧ f16 7 = tv ∧ f16 8 = Ad (bs g11) (0) ∧ f16 16 = I ((i : Nat) : Int) ∧ i ≤ 4 ∧ OS 3 1 tv ((plc (dg x h) z).take i).length (((plc (dg x h) z).take i).map IN) ET ∧ St w [] [ET, [(g11, Rw 123 ((nw (dg (x) (h))).map U64))], [(g1, Rw 26 ((h).map B8))]] w17) (fun i => 4 - i) 0 ⟨_, _, rfl, rfl, rfl, rfl, (by omega), (OS.nil 3 1), (H15.nilp)⟩ ?_
  rintro i f16 w17 ⟨tv, ET, s2_18, s7_18, s8_18, s16_18, hi, hoT, H18⟩
  have hti : ((plc (dg x h) z).take i).length = i := by rw [List.length_take, plc_length]; omega
  have hnl : (nw (dg x h)).length = 4 := rfl
  refine c_seq ?_
  refine c_reg ?_
  refine sy (v := .bool (decide (i < 4))) (n_lss (a := i) (b := 4) s16_18 rfl) ?_
  refine c_nil ?_
  refine n_then ?_
  refine c_seq ?_
  refine c_if rfl (fun hc19 => ?_) (fun hc19 => ?_)
  · skip
    refine wp_skip ?_
    refine n_then ?_
    refine c_seq ?_
    refine wp_block ?_
    refine c_seq ?_
    refine c_reg ?_
    refine sy (v := I ((i : Nat) : Int)) (y_move s16_18) ?_
    refine sy (v := I ((i : Nat) : Int)) (y_assign rfl) ?_
    refine c_nil ?_
    refine n_then ?_
    refine c_reg ?_
    refine sy (v := tv) (y_move s7_18) ?_
    refine sy (v := I ((i : Nat) : Int)) (y_move rfl) ?_
    refine sy (v := Ad (bs g11) (0 + i * 1)) (y_ixA (m := i) Try.underlying123 sz59 s8_18 rfl rfl (by omega)) ?_
    refine sy (v := U64 ((nw (dg (x) (h))).getD i 0)) (y_load sc59 rfl (H18.cell 1 rfl (by simp only [Nat.zero_add, Nat.mul_one]; exact map_get U64 0 (by omega)))) ?_
    refine sy (v := I ((z : Nat) : Int)) (y_move s2_18) ?_
    refine sy (v := I ((8 * z : Nat) : Int)) (n_mul (a := 8) (b := z) rfl rfl (by omega)) ?_
    refine sy (v := U64 (u64 ((8 * z : Nat)))) (y_conv_I_64 Try.underlying3 Try.underlying59 rfl) ?_
    refine sy (v := U64 (((nw (dg (x) (h))).getD i 0) % (u64 ((8 * z : Nat))))) (y_rem64 (a := (nw (dg (x) (h))).getD i 0) (b := u64 ((8 * z : Nat))) rfl rfl (by assumption)) ?_
    have hlt := plc_at (s := dg x h) (z := z) (i := i) (by omega) (by omega) (by omega)
    have hp := plc_lt (s := dg x h) (z := z) (by omega) ((plc (dg x h) z).getD i 0) (by rw [List.getD_eq_getElem?_getD, List.getElem?_eq_getElem (by rw [plc_length]; omega)]; exact List.getElem_mem _)
    refine sy (v := I (((plc (dg x h) z).getD i 0 : Nat) : Int)) ((hlt ▸ n_conv_64_I (a := ((nw (dg (x) (h))).getD i 0) % (u64 ((8 * z : Nat)))) (by rw [hlt]; omega) Try.underlying59 Try.underlying3 rfl)) ?_
    refine st (ow_buildSlice (pv := [(0, I (((plc (dg x h) z).getD i 0 : Nat) : Int))]) (us := [I (((plc (dg x h) z).getD i 0 : Nat) : Int)]) Try.underlying60 sz3 zr3 H18 ⟨⟨rfl, rfl⟩, trivial⟩ (by decide) (fill1 rfl)) ?_
    rintro _ w21 ⟨g20, rfl, H22⟩
    have H23 : St w [] [ET, [(g20, Rw 3 ([I (((plc (dg x h) z).getD i 0 : Nat) : Int)]))], [(g11, Rw 123 ((nw (dg (x) (h))).map U64))], [(g1, Rw 26 ((h).map B8))]] w21 := H22.foc 1 rfl rfl
    refine st (ow_append Try.underlying60 sz3 zr3 bt3 rfl hoT H23 rfl rfl ((rd_lit (k := 1) (us := [I (((plc (dg x h) z).getD i 0 : Nat) : Int)]) H22 0 rfl rfl (by simp [maxLen])).src Try.underlying60 (by simp [Value.oneCell'])) (by omega) (by omega)) ?_
    rintro v25 w26 ⟨E24, ho28', H27⟩
    have ho28 : OS 3 1 v25 (((plc (dg x h) z).take i) ++ ([(plc (dg x h) z).getD i 0])).length ((((plc (dg x h) z).take i) ++ ([(plc (dg x h) z).getD i 0])).map IN) E24 := by rw [List.length_append, List.map_append]; exact ho28'
    refine sy (v := v25) (y_assign rfl) ?_
    refine c_nil ?_
    refine n_block (n_then ?_)
    refine c_reg ?_
    refine sy (v := I ((i + 1 : Nat) : Int)) (n_add (a := i) (b := 1) s16_18 rfl (by omega)) ?_
    refine sy (v := I ((i + 1 : Nat) : Int)) (y_move rfl) ?_
    refine c_nil ?_
    have H29 : St w [] [[(g1, Rw 26 ((h).map B8))], E24, [(g20, Rw 3 ([I (((plc (dg x h) z).getD i 0 : Nat) : Int)]))], [(g11, Rw 123 ((nw (dg (x) (h))).map U64))]] w26 := H27.foc 3 rfl rfl
    have H30 : St w [] [[(g11, Rw 123 ((nw (dg (x) (h))).map U64))], [(g1, Rw 26 ((h).map B8))], E24, [(g20, Rw 3 ([I (((plc (dg x h) z).getD i 0 : Nat) : Int)]))]] w26 := H29.foc 3 rfl rfl
    have H31 : St w [] [E24, [(g11, Rw 123 ((nw (dg (x) (h))).map U64))], [(g1, Rw 26 ((h).map B8))], [(g20, Rw 3 ([I (((plc (dg x h) z).getD i 0 : Nat) : Int)]))]] w26 := H30.foc 2 rfl rfl
    have H32 : St w [] [E24, [(g11, Rw 123 ((nw (dg (x) (h))).map U64))], [(g1, Rw 26 ((h).map B8))]] w26 := H31.take 3 rfl
    exact lp_next (i + 1) ⟨v25, E24, s2_18, rfl, s8_18, rfl, (by omega), (by rw [take_snocN (by rw [plc_length]; omega)]; exact ho28), H32⟩ (by show _ < _; omega)
  · skip
    obtain rfl : i = 4 := by omega
    rw [List.take_of_length_le (by rw [plc_length]; omega)] at hoT
    refine wp_exit ?_
    refine x_then (x_then (x_hit (n_then ?_)))
    refine c_seq ?_
    refine c_reg ?_
    refine sy (v := tv) (y_move s7_18) ?_
    refine sy (v := tv) (y_assign rfl) ?_
    refine c_nil ?_
    refine n_then ?_
    refine wp_ret ?_
    refine e_r1 Try.results42 (rv_t rfl) ?_
    have H33 : St w [] [ET] w17 := H18.take 1 rfl
    exact ⟨_, rfl, _, hoT, H33⟩

end Go.Proofs.Ytdcmbcjkdhdohaa
