/- Walks: wide, kept and turned of the laws of layer 3. -/
import Derived.Test.YtdcmbcjkdhdohaaDoorSeal2
import Derived.Test.YtdcmbcjkdhdohaaDoorArg
namespace Go.Proofs.YtdcmbcjkdhdohaaDoor
open Go Go.RowKit
attribute [local irreducible] wpList wpP Code.wp

@[simp] theorem wlen (l : List UInt8) : (l ++ marks).length = l.length + 8 := by rw [List.length_append]; rfl
/-- Bytes, behind them i of the marks. -/
def wd (l : List UInt8) : Nat → List UInt8
  | 0 => lay (List.replicate (l.length + 8) 0) 0 l
  | i + 1 => (wd l i).set (l.length + i) (b8 ((161 + i : Nat) : Int))
@[simp] theorem wd_length (l : List UInt8) : ∀ i, (wd l i).length = l.length + 8
  | 0 => by show (lay _ _ _).length = _; rw [lay_length (by simp)]; simp
  | i + 1 => by simp [wd, wd_length l i]
theorem set_behind (l r : List UInt8) (i : Nat) (x : UInt8) : (l ++ r).set (l.length + i) x = l ++ r.set i x := by
  rw [List.set_append_right _ _ (by omega), Nat.add_sub_cancel_left]
theorem wd_8 (l : List UInt8) : wd l 8 = l ++ marks := by
  have h0 : wd l 0 = l ++ List.replicate 8 0 := by
    simp only [wd, lay, List.take_zero, List.nil_append, List.drop_replicate, Nat.zero_add, Nat.add_sub_cancel_left]
  simp only [wd] at h0 ⊢
  rw [h0, set_behind, set_behind, set_behind, set_behind, set_behind, set_behind, set_behind, set_behind]
  rfl
theorem marks_at (l : List UInt8) (i : Nat) (h : i < 8) : (l ++ marks).getD (l.length + i) 0 = b8 ((161 + i : Nat) : Int) := by
  rw [List.getD_eq_getElem?_getD, List.getElem?_append_right (by omega), Nat.add_sub_cancel_left]
  have : i = 0 ∨ i = 1 ∨ i = 2 ∨ i = 3 ∨ i = 4 ∨ i = 5 ∨ i = 6 ∨ i = 7 := by omega
  rcases this with rfl | rfl | rfl | rfl | rfl | rfl | rfl | rfl <;> rfl
theorem take_w (l : List UInt8) : (l ++ marks).take l.length = l := by simp
theorem take_w2 {l l2 : List UInt8} (h : l2.length = l.length) : (l2 ++ marks).take l.length = l2 := by rw [← h]; simp

theorem wide_c (v0 : Value) (l : List UInt8) (w : World) (hR : Rd [] w 1 v0 l.length (l.map B8)) (hlen : l.length ≤ 281474976710000) :
    Calls Tryd.prog 5 (([v0] : List Value).toArray) w (fun e w' => ∃ v, e = .returned v ∧ ∃ g, v = .slice (some (bs g)) (l.length + 8) (l.length + 8) ∧ St w [] [[(g, Rw 5 ((l ++ marks).map B8))]] w') := by
  refine calls_mk Tryd.func5 rfl 26 Tryd.ntmps5 rfl ?_
  have H0 : St w [] [] w := St.refl w
  refine c_seq ?_
  refine c_reg ?_
  refine sy (v := .slice none 0 0) (y_assign (v := .slice none 0 0) rfl) ?_
  refine c_nil ?_
  refine n_then ?_
  refine c_seq ?_
  refine c_reg ?_
  refine sy (v := v0) (y_move rfl) ?_
  refine sy (v := I ((l.length : Nat) : Int)) (y_lenR Tryd.underlying22 (hR.st H0) rfl) ?_
  refine sy (v := I ((l.length + 8 : Nat) : Int)) (n_add (a := l.length) (b := 8) rfl rfl (by omega)) ?_
  refine st (ow_make (l := l.length + 8) (c := l.length + 8) Tryd.underlying22 sz5 zr5 bt5 rfl H0 rfl rfl (by omega) (by omega) (by omega)) ?_
  rintro _ w2 ⟨g1, rfl, H3'⟩
  have H3 : St w [] [[(g1, Rw 5 ((List.replicate (l.length + 8) 0).map B8))]] w2 := H3'.eq1 (by rw [Nat.mul_one, made_rep rfl]; first | rfl | exact (List.map_replicate (f := B8) (a := 0)).symm)
  refine sy (v := .slice (some (bs g1)) (l.length + 8) (l.length + 8)) (y_assign rfl) ?_
  refine c_nil ?_
  refine n_then ?_
  refine c_seq ?_
  refine c_reg ?_
  refine sy (v := .slice (some (bs g1)) (l.length + 8) (l.length + 8)) (y_move rfl) ?_
  refine sy (v := v0) (y_move rfl) ?_
  refine st (ow_copy (k := (l).length) (o := 0) (l := (List.replicate (l.length + 8) 0).map B8) Tryd.underlying22 sz5 H3 rfl rfl (hR.st H3) (map_one (F := B8) (fun _ => rfl) _) (by omega) (by simp only [List.length_map, List.length_replicate]; omega)) ?_
  rintro _ w4 ⟨rfl, H5'⟩
  have hr6 : (lay (List.replicate (l.length + 8) 0) 0 l).length = l.length + 8 := by rw [lay_length (by simp only [List.length_replicate, List.length_take]; omega)]; simp only [List.length_replicate]
  have H5 : St w [] [[(g1, Rw 5 ((lay (List.replicate (l.length + 8) 0) 0 l).map B8))]] w4 := H5'.eq1 (map_layA _ _ _)
  refine c_nil ?_
  refine n_then ?_
  refine c_seq ?_
  refine c_seq ?_
  refine c_reg ?_
  refine sy (v := I ((0 : Nat) : Int)) (y_assign (v := I ((0 : Nat) : Int)) rfl) ?_
  refine c_nil ?_
  refine n_then ?_
  refine wp_block ?_
  refine c_loop (fun (i : Nat) f7 w8 => f7 0 = v0 ∧ f7 3 = .slice (some (bs g1)) (l.length + 8) (l.length + 8) ∧ f7 4 = I ((i : Nat) : Int) ∧ i ≤ 8 ∧ St w [] [[(g1, Rw 5 ((wd l i).map B8))]] w8) (fun i => 8 - i) 0 ⟨rfl, rfl, rfl, (by omega), H5⟩ ?_
  rintro i f7 w8 ⟨s0_9, s3_9, s4_9, hf0_9, H9⟩
  have hwl := wd_length l i
  refine c_seq ?_
  refine c_seq ?_
  refine c_reg ?_
  refine sy (v := I ((i : Nat) : Int)) (y_move s4_9) ?_
  refine sy (v := .bool (decide (i < 8))) (n_lss (a := i) (b := 8) rfl rfl) ?_
  refine c_nil ?_
  refine n_then ?_
  refine c_if rfl (fun hc10 => ?_) (fun hc10 => ?_)
  · skip
    refine wp_skip ?_
    refine n_then ?_
    refine c_seq ?_
    refine wp_block ?_
    refine c_reg ?_
    refine sy (v := .slice (some (bs g1)) (l.length + 8) (l.length + 8)) (y_move s3_9) ?_
    refine sy (v := v0) (y_move s0_9) ?_
    refine sy (v := I ((l.length : Nat) : Int)) (y_lenR Tryd.underlying22 (hR.st H9) rfl) ?_
    refine sy (v := I ((i : Nat) : Int)) (y_move s4_9) ?_
    refine sy (v := I ((l.length + i : Nat) : Int)) (n_add (a := l.length) (b := i) rfl rfl (by omega)) ?_
    refine sy (v := I ((i : Nat) : Int)) (y_move s4_9) ?_
    refine sy (v := I ((161 + i : Nat) : Int)) (n_add (a := 161) (b := i) rfl rfl (by omega)) ?_
    refine sy (v := B8 (b8 ((161 + i : Nat)))) (y_conv_I_8 Tryd.underlying3 Tryd.underlying5 rfl) ?_
    refine sy (v := Ad (bs g1) ((l.length + i) * 1)) (y_ixS (m := l.length + i) Tryd.underlying22 sz5 rfl rfl rfl (by omega)) ?_
    refine s0 (ow_storeM (F := B8) (j := (l.length + i)) (fun _ => rfl) H9 sz5 rfl rfl (by omega) (by first | omega | (simp only [List.length_set]; omega))) ?_
    rintro _ w11 H12'
    have H12 : St w [] [[(g1, Rw 5 (((wd l i).set (l.length + i) (b8 ((161 + i : Nat)))).map B8))]] w11 := H12'
    refine c_nil ?_
    refine n_block (n_then ?_)
    refine c_reg ?_
    refine sy (v := I ((i : Nat) : Int)) (y_move s4_9) ?_
    refine sy (v := I ((i + 1 : Nat) : Int)) (n_add (a := i) (b := 1) rfl rfl (by omega)) ?_
    refine sy (v := I ((i + 1 : Nat) : Int)) (y_assign rfl) ?_
    refine c_nil ?_
    exact lp_next (i + 1) ⟨s0_9, s3_9, rfl, (by omega), H12⟩ (by show _ < _; omega)
  · skip
    obtain rfl : i = 8 := by omega
    refine wp_exit ?_
    refine x_then (x_then (x_hit (n_then ?_)))
    refine c_seq ?_
    refine c_reg ?_
    refine sy (v := .slice (some (bs g1)) (l.length + 8) (l.length + 8)) (y_move s3_9) ?_
    refine sy (v := .slice (some (bs g1)) (l.length + 8) (l.length + 8)) (y_assign rfl) ?_
    refine c_nil ?_
    refine n_then ?_
    refine wp_ret ?_
    refine e_r1 Tryd.results5 (rv_t rfl) ?_
    rw [wd_8] at H9
    exact ⟨_, rfl, g1, rfl, H9⟩

theorem kept_c (v0 v1 : Value) (l : List UInt8) (w : World) (hW : Rd [] w 1 v0 (l ++ marks).length ((l ++ marks).map B8)) (hR : Rd [] w 1 v1 l.length (l.map B8)) (hlen : l.length ≤ 281474976710000) :
    Calls Tryd.prog 8 (([v0, v1] : List Value).toArray) w (fun e w' => ∃ v, e = .returned v ∧ v = .bool true ∧ Below w.heap.size w w') := by
  have hwl := wlen l
  refine calls_mk Tryd.func8 rfl 37 Tryd.ntmps8 rfl ?_
  have H0 : St w [] [] w := St.refl w
  refine c_seq ?_
  refine c_reg ?_
  refine sy (v := .bool (false)) (y_assign (v := .bool (false)) rfl) ?_
  refine c_nil ?_
  refine n_then ?_
  refine c_seq ?_
  refine c_seq ?_
  refine drawS (.step 0 0 (.step 0 1 (.step 0 2 (.step 0 3 (.step 0 4 (.step 0 5 (.step 0 6 (.step 0 7 (.step 0 8 (.step 0 9 (.step 0 10 (.step 0 11 (.step 0 12 (.step 0 13 (.step 0 14 (.step 0 15 .nil)))))))))))))))) mixed H0 (by kernel_rfl) (by kernel_rfl) (by kernel_rfl) ?_
  intro w1 H2
  refine pt (v := v0) rfl (fun wS HS => y_move rfl) ?_
  refine pt (v := I (((l ++ marks).length : Nat) : Int)) rfl (fun wS HS => y_lenR Tryd.underlying22 (hW.st HS) rfl) ?_
  refine pt (v := v1) rfl (fun wS HS => y_move rfl) ?_
  refine pt (v := I ((l.length : Nat) : Int)) rfl (fun wS HS => y_lenR Tryd.underlying22 (hR.st HS) rfl) ?_
  refine pt (v := I ((l.length + 8 : Nat) : Int)) rfl (fun wS HS => n_add (a := l.length) (b := 8) rfl rfl (by omega)) ?_
  refine pt (v := .bool (decide (((l ++ marks).length) ≠ (l.length + 8)))) rfl (fun wS HS => n_neq (a := (l ++ marks).length) (b := l.length + 8) rfl rfl) ?_
  refine pt (v := .bool (decide (((l ++ marks).length) ≠ (l.length + 8)))) rfl (fun wS HS => y_move rfl) ?_
  have hq3 : ¬ (((l ++ marks).length) ≠ (l.length + 8)) := (by omega)
  refine gpt (v := v0) rfl (gv_of (t := 12) rfl rfl rfl) (decide_eq_false hq3) (fun wS HS => y_move rfl) ?_
  refine gpt (v := v1) rfl (gv_of (t := 12) rfl rfl rfl) (decide_eq_false hq3) (fun wS HS => y_move rfl) ?_
  refine gpt (v := I ((l.length : Nat) : Int)) rfl (gv_of (t := 12) rfl rfl rfl) (decide_eq_false hq3) (fun wS HS => y_lenR Tryd.underlying22 (hR.st HS) rfl) ?_
  have hL4 : ((l ++ marks).take l.length).length = l.length := by rw [List.length_take]; omega
  refine gpt (v := slv 1 (0) (l.length) (v0)) rfl (gv_of (t := 12) rfl rfl rfl) (decide_eq_false hq3) (fun wS HS => y_slR (k1 := .i64) (k2 := .i64) (l := 0) (h := l.length) Tryd.underlying22 sz5 (hW.st HS) rfl (.inl ⟨rfl, rfl⟩) (.inr ⟨_, rfl, rfl⟩) (by omega) (by omega)) ?_
  refine gpt (v := .string (bst ((l ++ marks).take l.length))) rfl (gv_of (t := 12) rfl rfl rfl) (decide_eq_false hq3) (fun wS HS => y_str Tryd.underlying22 Tryd.underlying5 Tryd.underlying9 (rdb_pre (hW.st HS) (by omega)) rfl) ?_
  refine gpt (v := v1) rfl (gv_of (t := 12) rfl rfl rfl) (decide_eq_false hq3) (fun wS HS => y_move rfl) ?_
  refine gpt (v := .string (bst (l))) rfl (gv_of (t := 12) rfl rfl rfl) (decide_eq_false hq3) (fun wS HS => y_str Tryd.underlying22 Tryd.underlying5 Tryd.underlying9 (hR.st HS) rfl) ?_
  refine gpt (v := .bool (decide (((l ++ marks).take l.length) ≠ l))) rfl (gv_of (t := 12) rfl rfl rfl) (decide_eq_false hq3) (fun wS HS => y_neqS (a := (l ++ marks).take l.length) (b := l) rfl rfl) ?_
  refine pt (v := .bool (decide (((l ++ marks).take l.length) ≠ l))) rfl (fun wS HS => y_pickF rfl (decide_eq_false hq3) rfl) ?_
  refine p_nil ?_
  refine n_then ?_
  have hq5 : ¬ (((l ++ marks).take l.length) ≠ l) := (fun h => h (take_w l))
  refine c_f rfl (decide_eq_false hq5) ?_
  refine wp_skip ?_
  refine n_then ?_
  refine c_seq ?_
  refine c_seq ?_
  refine c_reg ?_
  refine sy (v := I ((0 : Nat) : Int)) (y_assign (v := I ((0 : Nat) : Int)) rfl) ?_
  refine c_nil ?_
  refine n_then ?_
  refine wp_block ?_
  refine c_loop (fun (i : Nat) f6 w7 => f6 0 = v0 ∧ f6 1 = v1 ∧ f6 5 = I ((i : Nat) : Int) ∧ i ≤ 8 ∧ St w [] [] w7) (fun i => 8 - i) 0 ⟨rfl, rfl, rfl, (by omega), H2⟩ ?_
  rintro i f6 w7 ⟨s0_8, s1_8, s5_8, hf0_8, H8⟩
  refine c_seq ?_
  refine c_seq ?_
  refine c_reg ?_
  refine sy (v := I ((i : Nat) : Int)) (y_move s5_8) ?_
  refine sy (v := .bool (decide (i < 8))) (n_lss (a := i) (b := 8) rfl rfl) ?_
  refine c_nil ?_
  refine n_then ?_
  refine c_if rfl (fun hc9 => ?_) (fun hc9 => ?_)
  · skip
    refine wp_skip ?_
    refine n_then ?_
    refine c_seq ?_
    refine wp_block ?_
    refine c_seq ?_
    refine c_reg ?_
    refine sy (v := v0) (y_move s0_8) ?_
    refine sy (v := v1) (y_move s1_8) ?_
    refine sy (v := I ((l.length : Nat) : Int)) (y_lenR Tryd.underlying22 (hR.st H8) rfl) ?_
    refine sy (v := I ((i : Nat) : Int)) (y_move s5_8) ?_
    refine sy (v := I ((l.length + i : Nat) : Int)) (n_add (a := l.length) (b := i) rfl rfl (by omega)) ?_
    refine sy (v := Ad (sp (v0)) ((l.length + i) * 1)) (y_ixR (m := l.length + i) Tryd.underlying22 sz5 (hW.st H8) (by decide) rfl rfl rfl (by omega)) ?_
    refine sy (v := B8 ((l ++ marks).getD (l.length + i) 0)) (y_load sc5 rfl ((hW.st H8).cell _ _ (by rw [Nat.mul_one]; exact map_get B8 0 (by omega)))) ?_
    refine sy (v := I ((i : Nat) : Int)) (y_move s5_8) ?_
    refine sy (v := I ((161 + i : Nat) : Int)) (n_add (a := 161) (b := i) rfl rfl (by omega)) ?_
    refine sy (v := B8 (b8 ((161 + i : Nat)))) (y_conv_I_8 Tryd.underlying3 Tryd.underlying5 rfl) ?_
    refine sy (v := .bool (decide (((l ++ marks).getD (l.length + i) 0) ≠ (b8 ((161 + i : Nat)))))) (y_neq8 (a := (l ++ marks).getD (l.length + i) 0) (b := b8 ((161 + i : Nat))) rfl rfl) ?_
    refine c_nil ?_
    refine n_then ?_
    have hq10 : ¬ (((l ++ marks).getD (l.length + i) 0) ≠ (b8 ((161 + i : Nat)))) := (fun h => h (marks_at l i (by omega)))
    refine c_f rfl (decide_eq_false hq10) ?_
    refine wp_skip ?_
    refine n_block (n_then ?_)
    refine c_reg ?_
    refine sy (v := I ((i : Nat) : Int)) (y_move s5_8) ?_
    refine sy (v := I ((i + 1 : Nat) : Int)) (n_add (a := i) (b := 1) rfl rfl (by omega)) ?_
    refine sy (v := I ((i + 1 : Nat) : Int)) (y_assign rfl) ?_
    refine c_nil ?_
    exact lp_next (i + 1) ⟨s0_8, s1_8, rfl, (by omega), H8⟩ (by show _ < _; omega)
  · skip
    refine wp_exit ?_
    refine x_then (x_then (x_hit (n_then ?_)))
    refine c_seq ?_
    refine c_reg ?_
    refine sy (v := .bool (true)) (y_assign (v := .bool (true)) rfl) ?_
    refine c_nil ?_
    refine n_then ?_
    refine wp_ret ?_
    refine e_r1 Tryd.results8 (rv_t rfl) ?_
    exact ⟨_, rfl, rfl, H8.below⟩

theorem mturned_c (g : Nat) (l : List UInt8) (w : World) (hd : w.heap[g]? = some (Rw 5 ((l ++ marks).map B8))) (hlen : l.length ≤ 281474976710000) :
    Calls Tryd.prog 11 (([.slice (some (bs g)) (l.length + 8) (l.length + 8)] : List Value).toArray) w (fun e w' => ∃ v, e = .returned v ∧ v = .tuple #[] ∧ ∃ l', l'.length = l.length ∧ St w [g] [[(g, Rw 5 ((l' ++ marks).map B8))]] w') := by
  have hwl := wlen l
  refine calls_mk Tryd.func11 rfl 19 Tryd.ntmps11 rfl ?_
  have H0 : St w [g] [[(g, Rw 5 ((l ++ marks).map B8))]] w := St.init hd
  refine c_seq ?_
  refine c_reg ?_
  refine sy (v := I ((0 : Nat) : Int)) (y_assign (v := I ((0 : Nat) : Int)) rfl) ?_
  refine c_nil ?_
  refine n_then ?_
  refine wp_block ?_
  refine c_loop (fun (i : Nat) f1 w2 => ∃ (l' : List UInt8), f1 0 = .slice (some (bs g)) (l.length + 8) (l.length + 8) ∧ f1 2 = I ((i : Nat) : Int) ∧ i ≤ l.length ∧ l'.length = l.length ∧ St w [g] [[(g, Rw 5 ((l' ++ marks).map B8))]] w2) (fun i => l.length - i) 0 ⟨l, rfl, rfl, (Nat.zero_le _), rfl, H0⟩ ?_
  rintro i f1 w2 ⟨l', s0_3, s2_3, hi, hl', H3⟩
  have hwl' := wlen l'
  refine c_seq ?_
  refine c_seq ?_
  refine c_reg ?_
  refine sy (v := I ((i : Nat) : Int)) (y_move s2_3) ?_
  refine sy (v := I ((i + 8 : Nat) : Int)) (n_add (a := i) (b := 8) rfl rfl (by omega)) ?_
  refine sy (v := .slice (some (bs g)) (l.length + 8) (l.length + 8)) (y_move s0_3) ?_
  refine sy (v := I ((l.length + 8 : Nat) : Int)) (y_len Tryd.underlying22 rfl) ?_
  refine sy (v := .bool (decide ((i + 8) < (l.length + 8)))) (n_lss (a := i + 8) (b := l.length + 8) rfl rfl) ?_
  refine c_nil ?_
  refine n_then ?_
  refine c_if rfl (fun hc4 => ?_) (fun hc4 => ?_)
  · skip
    refine wp_skip ?_
    refine n_then ?_
    refine c_seq ?_
    refine wp_block ?_
    refine c_reg ?_
    refine sy (v := .slice (some (bs g)) (l.length + 8) (l.length + 8)) (y_move s0_3) ?_
    refine sy (v := I ((i : Nat) : Int)) (y_move s2_3) ?_
    refine sy (v := .slice (some (bs g)) (l.length + 8) (l.length + 8)) (y_move s0_3) ?_
    refine sy (v := I ((i : Nat) : Int)) (y_move s2_3) ?_
    refine sy (v := Ad (bs g) (i * 1)) (y_ixS (m := i) Tryd.underlying22 sz5 rfl rfl rfl (by omega)) ?_
    refine sy (v := B8 ((l' ++ marks).getD i 0)) (y_load sc5 rfl (H3.cell 0 rfl (by simp only [Nat.zero_add, Nat.mul_one]; exact map_get B8 0 (by omega)))) ?_
    refine sy (v := B8 (((l' ++ marks).getD i 0) * 5)) (y_mul8 (a := (l' ++ marks).getD i 0) (b := 5) rfl rfl) ?_
    refine sy (v := B8 ((((l' ++ marks).getD i 0) * 5) ^^^ 59)) (y_xor8 (a := ((l' ++ marks).getD i 0) * 5) (b := 59) rfl rfl) ?_
    refine sy (v := Ad (bs g) (i * 1)) (y_ixS (m := i) Tryd.underlying22 sz5 rfl rfl rfl (by omega)) ?_
    refine s0 (ow_storeM (F := B8) (j := i) (fun _ => rfl) H3 sz5 rfl rfl (by omega) (by first | omega | (simp only [List.length_set]; omega))) ?_
    rintro _ w5 H6'
    have H6 : St w [g] [[(g, Rw 5 (((l' ++ marks).set i ((((l' ++ marks).getD i 0) * 5) ^^^ 59)).map B8))]] w5 := H6'
    refine c_nil ?_
    refine n_block (n_then ?_)
    refine c_reg ?_
    refine sy (v := I ((i : Nat) : Int)) (y_move s2_3) ?_
    refine sy (v := I ((i + 1 : Nat) : Int)) (n_add (a := i) (b := 1) rfl rfl (by omega)) ?_
    refine sy (v := I ((i + 1 : Nat) : Int)) (y_assign rfl) ?_
    refine c_nil ?_
    exact lp_next (i + 1) ⟨(l'.set i ((((l' ++ marks).getD i 0) * 5) ^^^ 59)), s0_3, rfl, (by omega), (by rw [List.length_set]; exact hl'), (by rw [← List.set_append_left _ _ (by omega)]; exact H6)⟩ (by show _ < _; omega)
  · skip
    refine wp_exit ?_
    refine x_then (x_then (x_hit ?_))
    refine e_end0 Tryd.results11 ?_
    exact ⟨_, rfl, rfl, l', hl', H3⟩

end Go.Proofs.YtdcmbcjkdhdohaaDoor
