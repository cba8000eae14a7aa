/- Walks: wide, kept and same of the laws of layer 6; Join of both. -/
import Derived.Test.YtdcmbcjkdhdohaaBloom3
import Derived.Test.YtdcmbcjkdhdohaaGrown
namespace Go.Proofs.Ytdcmbcjkdhdohaa
open Go Go.RowKit
attribute [local irreducible] wpList wpP Code.wp

def joinE (a b : List UInt8) : Nat := if okS (a.length : Int) ∧ a.length = b.length then 0 else 60
def joinL (a b : List UInt8) : List UInt8 := if okS (a.length : Int) ∧ a.length = b.length then List.zipWith (· ||| ·) a b else []
theorem joinL_le (a b : List UInt8) : (joinL a b).length ≤ 1099511627776 := by
  unfold joinL
  split
  · rename_i h
    have := okS_le h.1
    rw [List.length_zipWith]
    omega
  · simp
theorem zip_snoc {a b : List UInt8} {i : Nat} (h : i < a.length) (hb : a.length = b.length) : (List.zipWith (· ||| ·) a b).take i ++ [a.getD i 0 ||| b.getD i 0] = (List.zipWith (· ||| ·) a b).take (i + 1) := by
  rw [List.take_add_one, List.getElem?_zipWith, List.getElem?_eq_getElem h, List.getElem?_eq_getElem (by omega), List.getD_eq_getElem?_getD, List.getD_eq_getElem?_getD, List.getElem?_eq_getElem h, List.getElem?_eq_getElem (by omega)]
  rfl
/-- The first i joined, noughts behind. -/
def zs (a b : List UInt8) (i : Nat) : List UInt8 := (List.zipWith (· ||| ·) a b).take i ++ List.replicate (a.length - i) 0
theorem zs_length {a b : List UInt8} {i : Nat} (h : i ≤ a.length) (hb : a.length = b.length) : (zs a b i).length = a.length := by
  simp only [zs, List.length_append, List.length_take, List.length_zipWith, List.length_replicate]
  omega
theorem zs_step {a b : List UInt8} {i : Nat} (h : i < a.length) (hb : a.length = b.length) : (zs a b i).set i (a.getD i 0 ||| b.getD i 0) = zs a b (i + 1) := by
  have hl : ((List.zipWith (· ||| ·) a b).take i).length = i := by rw [List.length_take, List.length_zipWith]; omega
  unfold zs
  rw [← zip_snoc h hb, List.set_append_right _ _ (by omega), hl, Nat.sub_self, show a.length - i = (a.length - (i + 1)) + 1 by omega, List.replicate_succ, List.set_cons_zero, List.append_assoc]
  rfl
theorem zs_end {a b : List UInt8} (hb : a.length = b.length) : zs a b a.length = List.zipWith (· ||| ·) a b := by
  unfold zs
  rw [Nat.sub_self, List.replicate_zero, List.append_nil, List.take_of_length_le (by rw [List.length_zipWith]; omega)]
theorem zs_0 (a b : List UInt8) : zs a b 0 = List.replicate a.length 0 := by simp [zs]

theorem bwide_c (v0 : Value) (l : List UInt8) (w : World) (hR : Rd [] w 1 v0 l.length (l.map B8)) (hlen : l.length ≤ 281474976710000) :
    Calls Try.prog 58 (([v0] : List Value).toArray) w (fun e w' => ∃ v, e = .returned v ∧ ∃ g, v = .slice (some (bs g)) (l.length + 8) (l.length + 8) ∧ St w [] [[(g, Rw 5 ((l ++ marks).map B8))]] w') := by
  refine calls_mk Try.func58 rfl 26 Try.ntmps58 rfl ?_
  have H0 : St w [] [] w := St.refl w
  refine c_seq ?_
  refine c_reg ?_
  refine sy (v := .slice none 0 0) (y_assign (v := .slice none 0 0) rfl) ?_
  refine c_nil ?_
  refine n_then ?_
  refine c_seq ?_
  refine c_reg ?_
  refine sy (v := v0) (y_move rfl) ?_
  refine sy (v := I ((l.length : Nat) : Int)) (y_lenR Try.underlying23 (hR.st H0) rfl) ?_
  refine sy (v := I ((l.length + 8 : Nat) : Int)) (n_add (a := l.length) (b := 8) rfl rfl (by omega)) ?_
  refine st (ow_make (l := l.length + 8) (c := l.length + 8) Try.underlying23 sz5 zr5 bt5 rfl H0 rfl rfl (by omega) (by omega) (by omega)) ?_
  rintro _ w2 ⟨g1, rfl, H3'⟩
  have H3 : St w [] [[(g1, Rw 5 ((List.replicate (l.length + 8) 0).map B8))]] w2 := H3'.eq1 (by rw [Nat.mul_one, made_rep rfl]; first | rfl | exact (List.map_replicate (f := B8) (a := 0)).symm)
  refine sy (v := .slice (some (bs g1)) (l.length + 8) (l.length + 8)) (y_assign rfl) ?_
  refine c_nil ?_
  refine n_then ?_
  refine c_seq ?_
  refine c_reg ?_
  refine sy (v := .slice (some (bs g1)) (l.length + 8) (l.length + 8)) (y_move rfl) ?_
  refine sy (v := v0) (y_move rfl) ?_
  refine st (ow_copy (k := (l).length) (o := 0) (l := (List.replicate (l.length + 8) 0).map B8) Try.underlying23 sz5 H3 rfl rfl (hR.st H3) (map_one (F := B8) (fun _ => rfl) _) (by omega) (by simp only [List.length_map, List.length_replicate]; omega)) ?_
  rintro _ w4 ⟨rfl, H5'⟩
  have hr6 : (lay (List.replicate (l.length + 8) 0) 0 l).length = l.length + 8 := by rw [lay_length (by simp only [List.length_replicate, List.length_take]; omega)]; simp only [List.length_replicate]
  have H5 : St w [] [[(g1, Rw 5 ((lay (List.replicate (l.length + 8) 0) 0 l).map B8))]] w4 := H5'.eq1 (map_layA _ _ _)
  refine c_nil ?_
  refine n_then ?_
  refine c_seq ?_
  refine c_seq ?_
  refine c_reg ?_
  refine sy (v := I ((0 : Nat) : Int)) (y_assign (v := I ((0 : Nat) : Int)) rfl) ?_
  refine c_nil ?_
  refine n_then ?_
  refine wp_block ?_
  refine c_loop (fun (i : Nat) f7 w8 => f7 0 = v0 ∧ f7 3 = .slice (some (bs g1)) (l.length + 8) (l.length + 8) ∧ f7 4 = I ((i : Nat) : Int) ∧ i ≤ 8 ∧ St w [] [[(g1, Rw 5 ((wd l i).map B8))]] w8) (fun i => 8 - i) 0 ⟨rfl, rfl, rfl, (by omega), H5⟩ ?_
  rintro i f7 w8 ⟨s0_9, s3_9, s4_9, hf0_9, H9⟩
  have hwl := wd_length l i
  refine c_seq ?_
  refine c_seq ?_
  refine c_reg ?_
  refine sy (v := I ((i : Nat) : Int)) (y_move s4_9) ?_
  refine sy (v := .bool (decide (i < 8))) (n_lss (a := i) (b := 8) rfl rfl) ?_
  refine c_nil ?_
  refine n_then ?_
  refine c_if rfl (fun hc10 => ?_) (fun hc10 => ?_)
  · skip
    refine wp_skip ?_
    refine n_then ?_
    refine c_seq ?_
    refine wp_block ?_
    refine c_reg ?_
    refine sy (v := .slice (some (bs g1)) (l.length + 8) (l.length + 8)) (y_move s3_9) ?_
    refine sy (v := v0) (y_move s0_9) ?_
    refine sy (v := I ((l.length : Nat) : Int)) (y_lenR Try.underlying23 (hR.st H9) rfl) ?_
    refine sy (v := I ((i : Nat) : Int)) (y_move s4_9) ?_
    refine sy (v := I ((l.length + i : Nat) : Int)) (n_add (a := l.length) (b := i) rfl rfl (by omega)) ?_
    refine sy (v := I ((i : Nat) : Int)) (y_move s4_9) ?_
    refine sy (v := I ((161 + i : Nat) : Int)) (n_add (a := 161) (b := i) rfl rfl (by omega)) ?_
    refine sy (v := B8 (b8 ((161 + i : Nat)))) (y_conv_I_8 Try.underlying3 Try.underlying5 rfl) ?_
    refine sy (v := Ad (bs g1) ((l.length + i) * 1)) (y_ixS (m := l.length + i) Try.underlying23 sz5 rfl rfl rfl (by omega)) ?_
    refine s0 (ow_storeM (F := B8) (j := (l.length + i)) (fun _ => rfl) H9 sz5 rfl rfl (by omega) (by first | omega | (simp only [List.length_set]; omega))) ?_
    rintro _ w11 H12'
    have H12 : St w [] [[(g1, Rw 5 (((wd l i).set (l.length + i) (b8 ((161 + i : Nat)))).map B8))]] w11 := H12'
    refine c_nil ?_
    refine n_block (n_then ?_)
    refine c_reg ?_
    refine sy (v := I ((i : Nat) : Int)) (y_move s4_9) ?_
    refine sy (v := I ((i + 1 : Nat) : Int)) (n_add (a := i) (b := 1) rfl rfl (by omega)) ?_
    refine sy (v := I ((i + 1 : Nat) : Int)) (y_assign rfl) ?_
    refine c_nil ?_
    exact lp_next (i + 1) ⟨s0_9, s3_9, rfl, (by omega), H12⟩ (by show _ < _; omega)
  · skip
    obtain rfl : i = 8 := by omega
    refine wp_exit ?_
    refine x_then (x_then (x_hit (n_then ?_)))
    refine c_seq ?_
    refine c_reg ?_
    refine sy (v := .slice (some (bs g1)) (l.length + 8) (l.length + 8)) (y_move s3_9) ?_
    refine sy (v := .slice (some (bs g1)) (l.length + 8) (l.length + 8)) (y_assign rfl) ?_
    refine c_nil ?_
    refine n_then ?_
    refine wp_ret ?_
    refine e_r1 Try.results58 (rv_t rfl) ?_
    rw [wd_8] at H9
    exact ⟨_, rfl, g1, rfl, H9⟩

theorem bkept_c (v0 v1 : Value) (l : List UInt8) (w : World) (hW : Rd [] w 1 v0 (l ++ marks).length ((l ++ marks).map B8)) (hR : Rd [] w 1 v1 l.length (l.map B8)) (hlen : l.length ≤ 281474976710000) :
    Calls Try.prog 61 (([v0, v1] : List Value).toArray) w (fun e w' => ∃ v, e = .returned v ∧ v = .bool true ∧ Below w.heap.size w w') := by
  have hwl := wlen l
  refine calls_mk Try.func61 rfl 37 Try.ntmps61 rfl ?_
  have H0 : St w [] [] w := St.refl w
  refine c_seq ?_
  refine c_reg ?_
  refine sy (v := .bool (false)) (y_assign (v := .bool (false)) rfl) ?_
  refine c_nil ?_
  refine n_then ?_
  refine c_seq ?_
  refine c_seq ?_
  refine drawS (.step 0 0 (.step 0 1 (.step 0 2 (.step 0 3 (.step 0 4 (.step 0 5 (.step 0 6 (.step 0 7 (.step 0 8 (.step 0 9 (.step 0 10 (.step 0 11 (.step 0 12 (.step 0 13 (.step 0 14 (.step 0 15 .nil)))))))))))))))) mixed H0 (by kernel_rfl) (by kernel_rfl) (by kernel_rfl) ?_
  intro w1 H2
  refine pt (v := v0) rfl (fun wS HS => y_move rfl) ?_
  refine pt (v := I (((l ++ marks).length : Nat) : Int)) rfl (fun wS HS => y_lenR Try.underlying23 (hW.st HS) rfl) ?_
  refine pt (v := v1) rfl (fun wS HS => y_move rfl) ?_
  refine pt (v := I ((l.length : Nat) : Int)) rfl (fun wS HS => y_lenR Try.underlying23 (hR.st HS) rfl) ?_
  refine pt (v := I ((l.length + 8 : Nat) : Int)) rfl (fun wS HS => n_add (a := l.length) (b := 8) rfl rfl (by omega)) ?_
  refine pt (v := .bool (decide (((l ++ marks).length) ≠ (l.length + 8)))) rfl (fun wS HS => n_neq (a := (l ++ marks).length) (b := l.length + 8) rfl rfl) ?_
  refine pt (v := .bool (decide (((l ++ marks).length) ≠ (l.length + 8)))) rfl (fun wS HS => y_move rfl) ?_
  have hq3 : ¬ (((l ++ marks).length) ≠ (l.length + 8)) := (by omega)
  refine gpt (v := v0) rfl (gv_of (t := 12) rfl rfl rfl) (decide_eq_false hq3) (fun wS HS => y_move rfl) ?_
  refine gpt (v := v1) rfl (gv_of (t := 12) rfl rfl rfl) (decide_eq_false hq3) (fun wS HS => y_move rfl) ?_
  refine gpt (v := I ((l.length : Nat) : Int)) rfl (gv_of (t := 12) rfl rfl rfl) (decide_eq_false hq3) (fun wS HS => y_lenR Try.underlying23 (hR.st HS) rfl) ?_
  have hL4 : ((l ++ marks).take l.length).length = l.length := by rw [List.length_take]; omega
  refine gpt (v := slv 1 (0) (l.length) (v0)) rfl (gv_of (t := 12) rfl rfl rfl) (decide_eq_false hq3) (fun wS HS => y_slR (k1 := .i64) (k2 := .i64) (l := 0) (h := l.length) Try.underlying23 sz5 (hW.st HS) rfl (.inl ⟨rfl, rfl⟩) (.inr ⟨_, rfl, rfl⟩) (by omega) (by omega)) ?_
  refine gpt (v := .string (bst ((l ++ marks).take l.length))) rfl (gv_of (t := 12) rfl rfl rfl) (decide_eq_false hq3) (fun wS HS => y_str Try.underlying23 Try.underlying5 Try.underlying9 (rdb_pre (hW.st HS) (by omega)) rfl) ?_
  refine gpt (v := v1) rfl (gv_of (t := 12) rfl rfl rfl) (decide_eq_false hq3) (fun wS HS => y_move rfl) ?_
  refine gpt (v := .string (bst (l))) rfl (gv_of (t := 12) rfl rfl rfl) (decide_eq_false hq3) (fun wS HS => y_str Try.underlying23 Try.underlying5 Try.underlying9 (hR.st HS) rfl) ?_
  refine gpt (v := .bool (decide (((l ++ marks).take l.length) ≠ l))) rfl (gv_of (t := 12) rfl rfl rfl) (decide_eq_false hq3) (fun wS HS => y_neqS (a := (l ++ marks).take l.length) (b := l) rfl rfl) ?_
  refine pt (v := .bool (decide (((l ++ marks).take l.length) ≠ l))) rfl (fun wS HS => y_pickF rfl (decide_eq_false hq3) rfl) ?_
  refine p_nil ?_
  refine n_then ?_
  have hq5 : ¬ (((l ++ marks).take l.length) ≠ l) := (fun h => h (take_w l))
  refine c_f rfl (decide_eq_false hq5) ?_
  refine wp_skip ?_
  refine n_then ?_
  refine c_seq ?_
  refine c_seq ?_
  refine c_reg ?_
  refine sy (v := I ((0 : Nat) : Int)) (y_assign (v := I ((0 : Nat) : Int)) rfl) ?_
  refine c_nil ?_
  refine n_then ?_
  refine wp_block ?_
  refine c_loop (fun (i : Nat) f6 w7 => f6 0 = v0 ∧ f6 1 = v1 ∧ f6 5 = I ((i : Nat) : Int) ∧ i ≤ 8 ∧ St w [] [] w7) (fun i => 8 - i) 0 ⟨rfl, rfl, rfl, (by omega), H2⟩ ?_
  rintro i f6 w7 ⟨s0_8, s1_8, s5_8, hf0_8, H8⟩
  refine c_seq ?_
  refine c_seq ?_
  refine c_reg ?_
  refine sy (v := I ((i : Nat) : Int)) (y_move s5_8) ?_
  refine sy (v := .bool (decide (i < 8))) (n_lss (a := i) (b := 8) rfl rfl) ?_
  refine c_nil ?_
  refine n_then ?_
  refine c_if rfl (fun hc9 => ?_) (fun hc9 => ?_)
  · skip
    refine wp_skip ?_
    refine n_then ?_
    refine c_seq ?_
    refine wp_block ?_
    refine c_seq ?_
    refine c_reg ?_
    refine sy (v := v0) (y_move s0_8) ?_
    refine sy (v := v1) (y_move s1_8) ?_
    refine sy (v := I ((l.length : Nat) : Int)) (y_lenR Try.underlying23 (hR.st H8) rfl) ?_
    refine sy (v := I ((i : Nat) : Int)) (y_move s5_8) ?_
    refine sy (v := I ((l.length + i : Nat) : Int)) (n_add (a := l.length) (b := i) rfl rfl (by omega)) ?_
    refine sy (v := Ad (sp (v0)) ((l.length + i) * 1)) (y_ixR (m := l.length + i) Try.underlying23 sz5 (hW.st H8) (by decide) rfl rfl rfl (by omega)) ?_
    refine sy (v := B8 ((l ++ marks).getD (l.length + i) 0)) (y_load sc5 rfl ((hW.st H8).cell _ _ (by rw [Nat.mul_one]; exact map_get B8 (l := l ++ marks) (k := l.length + i) 0 (by omega)))) ?_
    refine sy (v := I ((i : Nat) : Int)) (y_move s5_8) ?_
    refine sy (v := I ((161 + i : Nat) : Int)) (n_add (a := 161) (b := i) rfl rfl (by omega)) ?_
    refine sy (v := B8 (b8 ((161 + i : Nat)))) (y_conv_I_8 Try.underlying3 Try.underlying5 rfl) ?_
    refine sy (v := .bool (decide (((l ++ marks).getD (l.length + i) 0) ≠ (b8 ((161 + i : Nat)))))) (y_neq8 (a := (l ++ marks).getD (l.length + i) 0) (b := b8 ((161 + i : Nat))) rfl rfl) ?_
    refine c_nil ?_
    refine n_then ?_
    have hq10 : ¬ (((l ++ marks).getD (l.length + i) 0) ≠ (b8 ((161 + i : Nat)))) := (fun h => h (marks_at l i (by omega)))
    refine c_f rfl (decide_eq_false hq10) ?_
    refine wp_skip ?_
    refine n_block (n_then ?_)
    refine c_reg ?_
    refine sy (v := I ((i : Nat) : Int)) (y_move s5_8) ?_
    refine sy (v := I ((i + 1 : Nat) : Int)) (n_add (a := i) (b := 1) rfl rfl (by omega)) ?_
    refine sy (v := I ((i + 1 : Nat) : Int)) (y_assign rfl) ?_
    refine c_nil ?_
    exact lp_next (i + 1) ⟨s0_8, s1_8, rfl, (by omega), H8⟩ (by show _ < _; omega)
  · skip
    refine wp_exit ?_
    refine x_then (x_then (x_hit (n_then ?_)))
    refine c_seq ?_
    refine c_reg ?_
    refine sy (v := .bool (true)) (y_assign (v := .bool (true)) rfl) ?_
    refine c_nil ?_
    refine n_then ?_
    refine wp_ret ?_
    refine e_r1 Try.results61 (rv_t rfl) ?_
    exact ⟨_, rfl, rfl, H8.below⟩

theorem bsame_c (v0 v1 : Value) (a b : List UInt8) (w : World) (h0 : Rd [] w 1 v0 a.length (a.map B8)) (h1 : Rd [] w 1 v1 b.length (b.map B8)) :
    Calls Try.prog 56 (([v0, v1] : List Value).toArray) w (fun e w' => ∃ v, e = .returned v ∧ v = .bool (decide (a = b)) ∧ Below w.heap.size w w') := by
  refine calls_mk Try.func56 rfl 10 Try.ntmps56 rfl ?_
  have H0 : St w [] [] w := St.refl w
  refine c_seq ?_
  refine c_reg ?_
  refine sy (v := .bool (false)) (y_assign (v := .bool (false)) rfl) ?_
  refine c_nil ?_
  refine n_then ?_
  refine c_seq ?_
  refine c_reg ?_
  refine sy (v := v0) (y_move rfl) ?_
  refine sy (v := .string (bst (a))) (y_str Try.underlying23 Try.underlying5 Try.underlying9 (h0.st H0) rfl) ?_
  refine sy (v := v1) (y_move rfl) ?_
  refine sy (v := .string (bst (b))) (y_str Try.underlying23 Try.underlying5 Try.underlying9 (h1.st H0) rfl) ?_
  refine sy (v := .bool (decide (a = b))) (y_eqlS (a := a) (b := b) rfl rfl) ?_
  refine sy (v := .bool (decide (a = b))) (y_assign rfl) ?_
  refine c_nil ?_
  refine n_then ?_
  refine wp_ret ?_
  refine e_r1 Try.results56 (rv_t rfl) ?_
  exact ⟨_, rfl, rfl, H0.below⟩

theorem same_c (v0 v1 : Value) (a b : List UInt8) (w : World) (h0 : Rd [] w 1 v0 a.length (a.map B8)) (h1 : Rd [] w 1 v1 b.length (b.map B8)) :
    Calls Try.prog 29 (([v0, v1] : List Value).toArray) w (fun e w' => ∃ v, e = .returned v ∧ v = .bool (decide (a = b)) ∧ Below w.heap.size w w') := by
  refine calls_mk Try.func29 rfl 10 Try.ntmps29 rfl ?_
  have H0 : St w [] [] w := St.refl w
  refine c_seq ?_
  refine c_reg ?_
  refine sy (v := .bool (false)) (y_assign (v := .bool (false)) rfl) ?_
  refine c_nil ?_
  refine n_then ?_
  refine c_seq ?_
  refine c_reg ?_
  refine sy (v := v0) (y_move rfl) ?_
  refine sy (v := .string (bst (a))) (y_str Try.underlying23 Try.underlying5 Try.underlying9 (h0.st H0) rfl) ?_
  refine sy (v := v1) (y_move rfl) ?_
  refine sy (v := .string (bst (b))) (y_str Try.underlying23 Try.underlying5 Try.underlying9 (h1.st H0) rfl) ?_
  refine sy (v := .bool (decide (a = b))) (y_eqlS (a := a) (b := b) rfl rfl) ?_
  refine sy (v := .bool (decide (a = b))) (y_assign rfl) ?_
  refine c_nil ?_
  refine n_then ?_
  refine wp_ret ?_
  refine e_r1 Try.results29 (rv_t rfl) ?_
  exact ⟨_, rfl, rfl, H0.below⟩

theorem rjoin_c (v0 v1 : Value) (a b : List UInt8) (w : World) (h0 : Rd [] w 1 v0 a.length (a.map B8)) (h1 : Rd [] w 1 v1 b.length (b.map B8)) (hla : a.length ≤ 9223372036854775800) :
    Calls Try.prog 59 (([v0, v1] : List Value).toArray) w (fun e w' => ∃ v, e = .returned v ∧ ∃ sv E, v = .tuple #[sv, I ((joinE a b : Nat) : Int)] ∧ OS 5 1 sv (joinL a b).length ((joinL a b).map B8) E ∧ St w [] [E] w') := by
  refine calls_mk Try.func59 rfl 41 Try.ntmps59 rfl ?_
  have H0 : St w [] [] w := St.refl w
  refine c_seq ?_
  refine c_reg ?_
  refine sy (v := .slice none 0 0) (y_assign (v := .slice none 0 0) rfl) ?_
  refine sy (v := I ((0 : Nat) : Int)) (y_assign (v := I ((0 : Nat) : Int)) rfl) ?_
  refine c_nil ?_
  refine n_then ?_
  refine c_seq ?_
  refine c_reg ?_
  refine sy (v := v0) (y_move rfl) ?_
  refine sy (v := I ((a.length : Nat) : Int)) (y_lenR Try.underlying23 (h0.st H0) rfl) ?_
  refine st (ow_call fn99 rfl (power_c (((a.length : Nat) : Int)) _) ⟨rfl, trivial⟩) ?_
  rintro _ w1 ⟨rfl, hB2⟩
  have H3 : St w [] [] w1 := H0.call hB2
  refine sy (v := .bool (decide (okS (((a.length : Nat) : Int))))) (y_assign rfl) ?_
  refine c_nil ?_
  refine n_then ?_
  refine c_seq ?_
  refine c_seq ?_
  refine c_reg ?_
  refine sy (v := .bool (decide (okS (((a.length : Nat) : Int))))) (y_move rfl) ?_
  refine sy (v := .bool (decide (¬ (okS (((a.length : Nat) : Int)))))) (y_notP rfl) ?_
  refine sy (v := .bool (decide (¬ (okS (((a.length : Nat) : Int)))))) (y_move rfl) ?_
  by_cases hp4 : ¬ (okS (((a.length : Nat) : Int)))
  · skip
    refine gno (gv_of (t := 14) rfl rfl rfl) (decide_eq_true hp4) ?_
    refine gno (gv_of (t := 14) rfl rfl rfl) (decide_eq_true hp4) ?_
    refine gno (gv_of (t := 14) rfl rfl rfl) (decide_eq_true hp4) ?_
    refine gno (gv_of (t := 14) rfl rfl rfl) (decide_eq_true hp4) ?_
    refine gno (gv_of (t := 14) rfl rfl rfl) (decide_eq_true hp4) ?_
    refine sy (v := .bool (true)) (y_pickT (v := .bool (true)) rfl (decide_eq_true hp4) rfl) ?_
    refine c_nil ?_
    refine n_then ?_
    refine c_t rfl rfl ?_
    refine c_seq ?_
    refine c_reg ?_
    refine sy (v := .slice none 0 0) (y_assign (v := .slice none 0 0) rfl) ?_
    refine sy (v := I ((60 : Nat) : Int)) (y_assign (v := I ((60 : Nat) : Int)) rfl) ?_
    refine c_nil ?_
    refine n_then ?_
    refine wp_ret ?_
    refine r_then ?_
    refine e_r2 Try.results59 (rv_t rfl) (rv_t rfl) ?_
    have hno : ¬ (okS (a.length : Int) ∧ a.length = b.length) := by rintro ⟨q1, q2⟩; first | omega | grind
    exact ⟨_, rfl, .slice none 0 0, [], by rw [joinE, if_neg hno]; rfl, by rw [joinL, if_neg hno]; exact OS.nil 5 1, H3.none.nilp⟩
  · skip
    refine gsy (v := v0) (gv_of (t := 14) rfl rfl rfl) (decide_eq_false hp4) (y_move rfl) ?_
    refine gsy (v := I ((a.length : Nat) : Int)) (gv_of (t := 14) rfl rfl rfl) (decide_eq_false hp4) (y_lenR Try.underlying23 (h0.st H3) rfl) ?_
    refine gsy (v := v1) (gv_of (t := 14) rfl rfl rfl) (decide_eq_false hp4) (y_move rfl) ?_
    refine gsy (v := I ((b.length : Nat) : Int)) (gv_of (t := 14) rfl rfl rfl) (decide_eq_false hp4) (y_lenR Try.underlying23 (h1.st H3) rfl) ?_
    refine gsy (v := .bool (decide (a.length ≠ b.length))) (gv_of (t := 14) rfl rfl rfl) (decide_eq_false hp4) (n_neq (a := a.length) (b := b.length) rfl rfl) ?_
    refine sy (v := .bool (decide (a.length ≠ b.length))) (y_pickF rfl (decide_eq_false hp4) rfl) ?_
    refine c_nil ?_
    refine n_then ?_
    refine c_if rfl (fun hc5 => ?_) (fun hc5 => ?_)
    · skip
      refine c_seq ?_
      refine c_reg ?_
      refine sy (v := .slice none 0 0) (y_assign (v := .slice none 0 0) rfl) ?_
      refine sy (v := I ((60 : Nat) : Int)) (y_assign (v := I ((60 : Nat) : Int)) rfl) ?_
      refine c_nil ?_
      refine n_then ?_
      refine wp_ret ?_
      refine r_then ?_
      refine e_r2 Try.results59 (rv_t rfl) (rv_t rfl) ?_
      have hno : ¬ (okS (a.length : Int) ∧ a.length = b.length) := by rintro ⟨q1, q2⟩; first | omega | grind
      exact ⟨_, rfl, .slice none 0 0, [], by rw [joinE, if_neg hno]; rfl, by rw [joinL, if_neg hno]; exact OS.nil 5 1, H3.none.nilp⟩
    · skip
      have hok : okS (a.length : Int) := by first | assumption | grind
      have hab : a.length = b.length := by first | omega | grind
      have hole := okS_le hok
      refine wp_skip ?_
      refine n_then ?_
      refine c_seq ?_
      refine c_reg ?_
      refine st (ow_buildSlice (pv := []) (us := []) Try.underlying23 sz5 zr5 H3 trivial (by decide) fill0) ?_
      rintro _ w7 ⟨g6, rfl, H8⟩
      refine sy (v := .slice (some (bs g6)) 0 0) (y_assign rfl) ?_
      refine c_nil ?_
      refine n_then ?_
      refine c_seq ?_
      refine c_seq ?_
      refine c_reg ?_
      refine sy (v := I ((0 : Nat) : Int)) (y_assign (v := I ((0 : Nat) : Int)) rfl) ?_
      refine c_nil ?_
      refine n_then ?_
      refine wp_block ?_
      refine c_loop (fun (i : Nat) f9 w10 => ∃ (tv : Value), ∃ (ET : Part), f9 0 = v0 ∧ f9 1 = v1 ∧ f9 7 = tv ∧ f9 8 = I ((i : Nat) : Int) ∧ i ≤ a.length ∧ OS 5 1 tv ((List.zipWith (· ||| ·) a b).take i).length (((List.zipWith (· ||| ·) a b).take i).map B8) ET ∧ St w [] [ET] w10) (fun i => a.length - i) 0 ⟨_, _, rfl, rfl, rfl, rfl, (by omega), (os_lit (k := 0) rfl (by simp [maxLen])), H8⟩ ?_
      rintro i f9 w10 ⟨tv, ET, s0_11, s1_11, s7_11, s8_11, hi, hoT, H11⟩
      have hti : ((List.zipWith (· ||| ·) a b).take i).length = i := by rw [List.length_take, List.length_zipWith]; omega
      refine c_seq ?_
      refine c_seq ?_
      refine c_reg ?_
      refine sy (v := I ((i : Nat) : Int)) (y_move s8_11) ?_
      refine sy (v := v0) (y_move s0_11) ?_
      refine sy (v := I ((a.length : Nat) : Int)) (y_lenR Try.underlying23 (h0.st H11) rfl) ?_
      refine sy (v := .bool (decide (i < a.length))) (n_lss (a := i) (b := a.length) rfl rfl) ?_
      refine c_nil ?_
      refine n_then ?_
      refine c_if rfl (fun hc12 => ?_) (fun hc12 => ?_)
      · skip
        refine wp_skip ?_
        refine n_then ?_
        refine c_seq ?_
        refine wp_block ?_
        refine drawSub (.step 0 0 (.step 0 1 (.step 0 2 (.step 0 3 (.step 0 4 (.step 0 5 (.step 0 6 (.step 0 7 (.step 0 8 (.step 0 9 (.step 1 10 (.step 1 11 (.step 2 12 .nil))))))))))))) mixed H11 (fun _ h => h.drop) (by kernel_rfl) (by kernel_rfl) (by kernel_rfl) ?_
        intro w13 H14
        refine pt (v := tv) rfl (fun wS HS => y_move s7_11) ?_
        refine pt (v := v0) rfl (fun wS HS => y_move s0_11) ?_
        refine pt (v := I ((i : Nat) : Int)) rfl (fun wS HS => y_move s8_11) ?_
        refine pt (v := Ad (sp (v0)) (i * 1)) rfl (fun wS HS => y_ixR (m := i) Try.underlying23 sz5 (h0.st HS) (by decide) rfl rfl rfl (by omega)) ?_
        refine pt (v := B8 (a.getD i 0)) rfl (fun wS HS => y_load sc5 rfl ((h0.st HS).cell _ _ (by rw [Nat.mul_one]; exact map_get B8 (l := a) (k := i) 0 (by omega)))) ?_
        refine pt (v := v1) rfl (fun wS HS => y_move s1_11) ?_
        refine pt (v := I ((i : Nat) : Int)) rfl (fun wS HS => y_move s8_11) ?_
        refine pt (v := Ad (sp (v1)) (i * 1)) rfl (fun wS HS => y_ixR (m := i) Try.underlying23 sz5 (h1.st HS) (by decide) rfl rfl rfl (by omega)) ?_
        refine pt (v := B8 (b.getD i 0)) rfl (fun wS HS => y_load sc5 rfl ((h1.st HS).cell _ _ (by rw [Nat.mul_one]; exact map_get B8 (l := b) (k := i) 0 (by omega)))) ?_
        refine pt (v := B8 ((a.getD i 0) ||| (b.getD i 0))) rfl (fun wS HS => y_or8 (a := a.getD i 0) (b := b.getD i 0) rfl rfl) ?_
        refine pl rfl (ow_buildSlice (pv := [(0, B8 ((a.getD i 0) ||| (b.getD i 0)))]) (us := [B8 ((a.getD i 0) ||| (b.getD i 0))]) Try.underlying23 sz5 zr5 H14 ⟨⟨rfl, rfl⟩, trivial⟩ (by decide) (fill1 rfl)) ?_
        rintro _ w16 ⟨g15, rfl, H17⟩
        have H18 : St w [] [] w16 := H17.take 0 rfl
        refine ⟨H18, ?_⟩
        have H19 : St w [] [ET, [(g15, Rw 5 ([B8 ((a.getD i 0) ||| (b.getD i 0))]))]] w16 := H17.foc 1 rfl rfl
        refine pl rfl (ow_append Try.underlying23 sz5 zr5 bt5 rfl hoT H19 rfl rfl ((rd_lit (k := 1) (us := [B8 ((a.getD i 0) ||| (b.getD i 0))]) H17 0 rfl rfl (by simp [maxLen])).src Try.underlying23 (by simp [Value.oneCell'])) (by omega) (by omega)) ?_
        rintro v21 w22 ⟨E20, ho24', H23⟩
        have ho24 : OS 5 1 v21 (((List.zipWith (· ||| ·) a b).take i) ++ ([(a.getD i 0) ||| (b.getD i 0)])).length ((((List.zipWith (· ||| ·) a b).take i) ++ ([(a.getD i 0) ||| (b.getD i 0)])).map B8) E20 := by rw [List.length_append, List.map_append]; exact ho24'
        have H25 : St w [] [] w22 := H23.take 0 rfl
        refine ⟨H25, ?_⟩
        refine tly (v := v21) rfl (y_assign rfl) ?_
        refine p_nil ?_
        refine n_block (n_then ?_)
        refine c_reg ?_
        refine sy (v := I ((i : Nat) : Int)) (y_move s8_11) ?_
        refine sy (v := I ((i + 1 : Nat) : Int)) (n_add (a := i) (b := 1) rfl rfl (by omega)) ?_
        refine sy (v := I ((i + 1 : Nat) : Int)) (y_assign rfl) ?_
        refine c_nil ?_
        have H26 : St w [] [E20] w22 := H23.take 1 rfl
        exact lp_next (i + 1) ⟨v21, E20, s0_11, s1_11, rfl, rfl, (by omega), (by rw [← zip_snoc (by omega) hab]; exact ho24), H26⟩ (by show _ < _; omega)
      · skip
        obtain rfl : i = a.length := by omega
        rw [List.take_of_length_le (by rw [List.length_zipWith]; omega)] at hoT
        refine wp_exit ?_
        refine x_then (x_then (x_hit (n_then ?_)))
        refine c_seq ?_
        refine c_reg ?_
        refine sy (v := tv) (y_move s7_11) ?_
        refine sy (v := tv) (y_assign rfl) ?_
        refine sy (v := I ((0 : Nat) : Int)) (y_assign (v := I ((0 : Nat) : Int)) rfl) ?_
        refine c_nil ?_
        refine n_then ?_
        refine wp_ret ?_
        refine e_r2 Try.results59 (rv_t rfl) (rv_t rfl) ?_
        exact ⟨_, rfl, _, _, by rw [joinE, if_pos ⟨hok, hab⟩]; rfl, by rw [joinL, if_pos ⟨hok, hab⟩]; exact hoT, H11⟩

theorem join_c (v0 v1 : Value) (a b : List UInt8) (w : World) (h0 : Rd [] w 1 v0 a.length (a.map B8)) (h1 : Rd [] w 1 v1 b.length (b.map B8)) (hla : a.length ≤ 9223372036854775800) :
    Calls Try.prog 60 (([v0, v1] : List Value).toArray) w (fun e w' => ∃ v, e = .returned v ∧ ∃ sv E, v = .tuple #[sv, I ((joinE a b : Nat) : Int)] ∧ OS 5 1 sv (joinL a b).length ((joinL a b).map B8) E ∧ St w [] [E] w') := by
  refine calls_mk Try.func60 rfl 45 Try.ntmps60 rfl ?_
  have H0 : St w [] [] w := St.refl w
  refine c_seq ?_
  refine c_reg ?_
  refine sy (v := .slice none 0 0) (y_assign (v := .slice none 0 0) rfl) ?_
  refine sy (v := I ((0 : Nat) : Int)) (y_assign (v := I ((0 : Nat) : Int)) rfl) ?_
  refine c_nil ?_
  refine n_then ?_
  refine c_seq ?_
  refine c_seq ?_
  refine c_reg ?_
  refine sy (v := v0) (y_move rfl) ?_
  refine st (ow_call fn62 rfl (right_c (v0) (a) _ ((h0.st H0)).nil) ⟨rfl, trivial⟩) ?_
  rintro _ w1 ⟨rfl, hB2⟩
  have H3 : St w [] [] w1 := H0.call hB2
  refine sy (v := .bool (decide (¬ (okS ((a.length : Nat) : Int))))) (y_notP rfl) ?_
  refine sy (v := .bool (decide (¬ (okS ((a.length : Nat) : Int))))) (y_move rfl) ?_
  by_cases hp4 : ¬ (okS ((a.length : Nat) : Int))
  · skip
    refine gno (gv_of (t := 11) rfl rfl rfl) (decide_eq_true hp4) ?_
    refine gno (gv_of (t := 11) rfl rfl rfl) (decide_eq_true hp4) ?_
    refine gno (gv_of (t := 11) rfl rfl rfl) (decide_eq_true hp4) ?_
    refine sy (v := .bool (true)) (y_pickT (v := .bool (true)) rfl (decide_eq_true hp4) rfl) ?_
    refine sy (v := .bool (true)) (y_move rfl) ?_
    refine gno (gv_of (t := 16) rfl rfl rfl) (rfl) ?_
    refine gno (gv_of (t := 16) rfl rfl rfl) (rfl) ?_
    refine gno (gv_of (t := 16) rfl rfl rfl) (rfl) ?_
    refine gno (gv_of (t := 16) rfl rfl rfl) (rfl) ?_
    refine gno (gv_of (t := 16) rfl rfl rfl) (rfl) ?_
    refine sy (v := .bool (true)) (y_pickT (v := .bool (true)) rfl (rfl) rfl) ?_
    refine c_nil ?_
    refine n_then ?_
    refine c_t rfl rfl ?_
    refine c_seq ?_
    refine c_reg ?_
    refine sy (v := .slice none 0 0) (y_assign (v := .slice none 0 0) rfl) ?_
    refine sy (v := I ((60 : Nat) : Int)) (y_assign (v := I ((60 : Nat) : Int)) rfl) ?_
    refine c_nil ?_
    refine n_then ?_
    refine wp_ret ?_
    refine r_then ?_
    refine e_r2 Try.results60 (rv_t rfl) (rv_t rfl) ?_
    have hno : ¬ (okS (a.length : Int) ∧ a.length = b.length) := by rintro ⟨q1, q2⟩; first | omega | grind
    exact ⟨_, rfl, .slice none 0 0, [], by rw [joinE, if_neg hno]; rfl, by rw [joinL, if_neg hno]; exact OS.nil 5 1, H3.none.nilp⟩
  · skip
    refine gsy (v := v1) (gv_of (t := 11) rfl rfl rfl) (decide_eq_false hp4) (y_move rfl) ?_
    refine gst (gv_of (t := 11) rfl rfl rfl) (decide_eq_false hp4) (ow_call fn62 rfl (right_c (v1) (b) _ ((h1.st H3)).nil) ⟨rfl, trivial⟩) ?_
    rintro _ w5 ⟨rfl, hB6⟩
    have H7 : St w [] [] w5 := H3.call hB6
    refine gsy (v := .bool (decide (¬ (okS ((b.length : Nat) : Int))))) (gv_of (t := 11) rfl rfl rfl) (decide_eq_false hp4) (y_notP rfl) ?_
    refine sy (v := .bool (decide (¬ (okS ((b.length : Nat) : Int))))) (y_pickF rfl (decide_eq_false hp4) rfl) ?_
    refine sy (v := .bool (decide (¬ (okS ((b.length : Nat) : Int))))) (y_move rfl) ?_
    by_cases hp8 : ¬ (okS ((b.length : Nat) : Int))
    · skip
      refine gno (gv_of (t := 16) rfl rfl rfl) (decide_eq_true hp8) ?_
      refine gno (gv_of (t := 16) rfl rfl rfl) (decide_eq_true hp8) ?_
      refine gno (gv_of (t := 16) rfl rfl rfl) (decide_eq_true hp8) ?_
      refine gno (gv_of (t := 16) rfl rfl rfl) (decide_eq_true hp8) ?_
      refine gno (gv_of (t := 16) rfl rfl rfl) (decide_eq_true hp8) ?_
      refine sy (v := .bool (true)) (y_pickT (v := .bool (true)) rfl (decide_eq_true hp8) rfl) ?_
      refine c_nil ?_
      refine n_then ?_
      refine c_t rfl rfl ?_
      refine c_seq ?_
      refine c_reg ?_
      refine sy (v := .slice none 0 0) (y_assign (v := .slice none 0 0) rfl) ?_
      refine sy (v := I ((60 : Nat) : Int)) (y_assign (v := I ((60 : Nat) : Int)) rfl) ?_
      refine c_nil ?_
      refine n_then ?_
      refine wp_ret ?_
      refine r_then ?_
      refine e_r2 Try.results60 (rv_t rfl) (rv_t rfl) ?_
      have hno : ¬ (okS (a.length : Int) ∧ a.length = b.length) := by rintro ⟨q1, q2⟩; first | omega | grind
      exact ⟨_, rfl, .slice none 0 0, [], by rw [joinE, if_neg hno]; rfl, by rw [joinL, if_neg hno]; exact OS.nil 5 1, H7.none.nilp⟩
    · skip
      refine gsy (v := v0) (gv_of (t := 16) rfl rfl rfl) (decide_eq_false hp8) (y_move rfl) ?_
      refine gsy (v := I ((a.length : Nat) : Int)) (gv_of (t := 16) rfl rfl rfl) (decide_eq_false hp8) (y_lenR Try.underlying23 (h0.st H7) rfl) ?_
      refine gsy (v := v1) (gv_of (t := 16) rfl rfl rfl) (decide_eq_false hp8) (y_move rfl) ?_
      refine gsy (v := I ((b.length : Nat) : Int)) (gv_of (t := 16) rfl rfl rfl) (decide_eq_false hp8) (y_lenR Try.underlying23 (h1.st H7) rfl) ?_
      refine gsy (v := .bool (decide (a.length ≠ b.length))) (gv_of (t := 16) rfl rfl rfl) (decide_eq_false hp8) (n_neq (a := a.length) (b := b.length) rfl rfl) ?_
      refine sy (v := .bool (decide (a.length ≠ b.length))) (y_pickF rfl (decide_eq_false hp8) rfl) ?_
      refine c_nil ?_
      refine n_then ?_
      refine c_if rfl (fun hc9 => ?_) (fun hc9 => ?_)
      · skip
        refine c_seq ?_
        refine c_reg ?_
        refine sy (v := .slice none 0 0) (y_assign (v := .slice none 0 0) rfl) ?_
        refine sy (v := I ((60 : Nat) : Int)) (y_assign (v := I ((60 : Nat) : Int)) rfl) ?_
        refine c_nil ?_
        refine n_then ?_
        refine wp_ret ?_
        refine r_then ?_
        refine e_r2 Try.results60 (rv_t rfl) (rv_t rfl) ?_
        have hno : ¬ (okS (a.length : Int) ∧ a.length = b.length) := by rintro ⟨q1, q2⟩; first | omega | grind
        exact ⟨_, rfl, .slice none 0 0, [], by rw [joinE, if_neg hno]; rfl, by rw [joinL, if_neg hno]; exact OS.nil 5 1, H7.none.nilp⟩
      · skip
        have hok : okS (a.length : Int) := by first | assumption | grind
        have hab : a.length = b.length := by first | omega | grind
        have hole := okS_le hok
        refine wp_skip ?_
        refine n_then ?_
        refine c_seq ?_
        refine c_reg ?_
        refine sy (v := v0) (y_move rfl) ?_
        refine sy (v := I ((a.length : Nat) : Int)) (y_lenR Try.underlying23 (h0.st H7) rfl) ?_
        refine st (ow_make (l := a.length) (c := a.length) Try.underlying23 sz5 zr5 bt5 rfl H7 rfl rfl (by omega) (by omega) (by omega)) ?_
        rintro _ w11 ⟨g10, rfl, H12'⟩
        have H12 : St w [] [[(g10, Rw 5 ((List.replicate a.length 0).map B8))]] w11 := H12'.eq1 (by rw [Nat.mul_one, made_rep rfl]; first | rfl | exact (List.map_replicate (f := B8) (a := 0)).symm)
        refine sy (v := .slice (some (bs g10)) (a.length) (a.length)) (y_assign rfl) ?_
        refine c_nil ?_
        refine n_then ?_
        refine c_seq ?_
        refine c_seq ?_
        refine c_reg ?_
        refine sy (v := .slice (some (bs g10)) (a.length) (a.length)) (y_move rfl) ?_
        refine sy (v := I ((a.length : Nat) : Int)) (y_len Try.underlying23 rfl) ?_
        refine sy (v := I ((0 : Nat) : Int)) (y_move (v := I ((0 : Nat) : Int)) rfl) ?_
        refine c_nil ?_
        refine n_then ?_
        refine wp_block ?_
        refine c_loop (fun (i : Nat) f13 w14 => f13 0 = v0 ∧ f13 1 = v1 ∧ f13 6 = .slice (some (bs g10)) (a.length) (a.length) ∧ f13 27 = I ((a.length : Nat) : Int) ∧ f13 28 = I ((i : Nat) : Int) ∧ i ≤ a.length ∧ St w [] [[(g10, Rw 5 ((zs a b i).map B8))]] w14) (fun i => a.length - i) 0 ⟨rfl, rfl, rfl, rfl, rfl, (by omega), (by rw [zs_0]; exact H12)⟩ ?_
        rintro i f13 w14 ⟨s0_15, s1_15, s6_15, s27_15, s28_15, hi, H15⟩
        have hzl := zs_length hi hab
        refine c_seq ?_
        refine c_reg ?_
        refine sy (v := .bool (decide (i < a.length))) (n_lss (a := i) (b := a.length) s28_15 s27_15) ?_
        refine c_nil ?_
        refine n_then ?_
        refine c_seq ?_
        refine c_if rfl (fun hc16 => ?_) (fun hc16 => ?_)
        · skip
          refine wp_skip ?_
          refine n_then ?_
          refine c_seq ?_
          refine wp_block ?_
          refine c_seq ?_
          refine c_reg ?_
          refine sy (v := I ((i : Nat) : Int)) (y_move s28_15) ?_
          refine sy (v := I ((i : Nat) : Int)) (y_assign rfl) ?_
          refine c_nil ?_
          refine n_then ?_
          refine drawS (.step 0 0 (.step 0 1 (.step 0 2 (.step 0 3 (.step 0 4 (.step 0 5 (.step 0 6 (.step 0 7 (.step 0 8 (.step 0 9 (.step 0 10 (.step 2 11 (.step 2 12 .nil))))))))))))) mixed H15 (by kernel_rfl) (by kernel_rfl) (by kernel_rfl) ?_
          intro w17 H18
          refine pt (v := .slice (some (bs g10)) (a.length) (a.length)) rfl (fun wS HS => y_move s6_15) ?_
          refine pt (v := I ((i : Nat) : Int)) rfl (fun wS HS => y_move rfl) ?_
          refine pt (v := v0) rfl (fun wS HS => y_move s0_15) ?_
          refine pt (v := I ((i : Nat) : Int)) rfl (fun wS HS => y_move rfl) ?_
          refine pt (v := Ad (sp (v0)) (i * 1)) rfl (fun wS HS => y_ixR (m := i) Try.underlying23 sz5 (h0.st HS) (by decide) rfl rfl rfl (by omega)) ?_
          refine pt (v := B8 (a.getD i 0)) rfl (fun wS HS => y_load sc5 rfl ((h0.st HS).cell _ _ (by rw [Nat.mul_one]; exact map_get B8 (l := a) (k := i) 0 (by omega)))) ?_
          refine pt (v := v1) rfl (fun wS HS => y_move s1_15) ?_
          refine pt (v := I ((i : Nat) : Int)) rfl (fun wS HS => y_move rfl) ?_
          refine pt (v := Ad (sp (v1)) (i * 1)) rfl (fun wS HS => y_ixR (m := i) Try.underlying23 sz5 (h1.st HS) (by decide) rfl rfl rfl (by omega)) ?_
          refine pt (v := B8 (b.getD i 0)) rfl (fun wS HS => y_load sc5 rfl ((h1.st HS).cell _ _ (by rw [Nat.mul_one]; exact map_get B8 (l := b) (k := i) 0 (by omega)))) ?_
          refine pt (v := B8 ((a.getD i 0) ||| (b.getD i 0))) rfl (fun wS HS => y_or8 (a := a.getD i 0) (b := b.getD i 0) rfl rfl) ?_
          refine tly (v := Ad (bs g10) (i * 1)) rfl (y_ixS (m := i) Try.underlying23 sz5 rfl rfl rfl (by omega)) ?_
          refine t0 rfl (ow_storeM (F := B8) (j := i) (fun _ => rfl) H18 sz5 rfl rfl (by omega) (by first | omega | (simp only [List.length_set]; omega))) ?_
          rintro _ w19 H20'
          have H20 : St w [] [[(g10, Rw 5 (((zs a b i).set i ((a.getD i 0) ||| (b.getD i 0))).map B8))]] w19 := H20'
          refine p_nil ?_
          refine n_block (n_then ?_)
          refine c_reg ?_
          refine sy (v := I ((i + 1 : Nat) : Int)) (n_add (a := i) (b := 1) s28_15 rfl (by omega)) ?_
          refine sy (v := I ((i + 1 : Nat) : Int)) (y_move rfl) ?_
          refine c_nil ?_
          exact lp_next (i + 1) ⟨s0_15, s1_15, s6_15, s27_15, rfl, (by omega), (by rw [← zs_step (by omega) hab]; exact H20)⟩ (by show _ < _; omega)
        · skip
          obtain rfl : i = a.length := by omega
          rw [zs_end hab] at H15
          have hlz : (List.zipWith (· ||| ·) a b).length = a.length := by rw [List.length_zipWith]; omega
          refine wp_exit ?_
          refine x_then (x_then (x_hit (n_then ?_)))
          refine c_seq ?_
          refine c_reg ?_
          refine sy (v := .slice (some (bs g10)) (a.length) (a.length)) (y_move s6_15) ?_
          refine sy (v := .slice (some (bs g10)) (a.length) (a.length)) (y_assign rfl) ?_
          refine sy (v := I ((0 : Nat) : Int)) (y_assign (v := I ((0 : Nat) : Int)) rfl) ?_
          refine c_nil ?_
          refine n_then ?_
          refine wp_ret ?_
          refine e_r2 Try.results60 (rv_t rfl) (rv_t rfl) ?_
          exact ⟨_, rfl, _, _, by rw [joinE, if_pos ⟨hok, hab⟩]; rfl, by rw [joinL, if_pos ⟨hok, hab⟩]; rw [hlz]; exact os_lit (k := a.length) (by rw [List.length_map, hlz]) (by unfold maxLen; omega), H15⟩

end Go.Proofs.Ytdcmbcjkdhdohaa
