/- Walks: grown of the laws of layers 3 and 6. -/
import Derived.Test.YtdcmbcjkdhdohaaDoorSeal3
import Derived.Test.YtdcmbcjkdhdohaaDoorTwo
namespace Go.Proofs.YtdcmbcjkdhdohaaDoor
open Go Go.RowKit
attribute [local irreducible] wpList wpP Code.wp

theorem Rd.one {X : List Nat} {w : World} {s n : Nat} {v : Value} {cs : List Value} (h : Rd X w s v n cs) : v.oneCell' = true := by
  obtain ⟨a, cap, rfl, -⟩ := h.shape
  rfl
/-- The first k bytes are c. -/
def fk (c : UInt8) (k : Nat) (l : List UInt8) : List UInt8 := List.replicate k c ++ l.drop k
theorem fk_length {c : UInt8} {k : Nat} {l : List UInt8} (h : k ≤ l.length) : (fk c k l).length = l.length := by
  simp [fk]; omega
theorem fk_step {c : UInt8} {k : Nat} {l : List UInt8} (h : k < l.length) : ((fk c k l).map B8).set k (B8 c) = (fk c (k + 1) l).map B8 := by
  rw [← List.map_set]
  congr 1
  unfold fk
  rw [List.set_append_right _ _ (by simp), List.length_replicate, Nat.sub_self, List.drop_eq_getElem_cons h, List.set_cons_zero, List.replicate_succ', List.append_assoc]
  rfl
theorem fk_end (c : UInt8) (l : List UInt8) : fk c l.length l = List.replicate l.length c := by simp [fk]
/-- The lists ahead of i are full of their marks. -/
def fu (j i : Nat) (l : List UInt8) : List UInt8 := if j < i then List.replicate l.length (b8 ((j + 1 : Nat) : Int)) else l
def GT (j i : Nat) (v u : Value) (l : List UInt8) (E : Part) : Prop :=
  if j < i then TS 5 1 v l.length ((List.replicate l.length (b8 ((j + 1 : Nat) : Int))).map B8) u (l.length + 70) ((List.replicate (l.length + 70) (b8 ((j + 1 : Nat) : Int))).map B8) E
  else OS 5 1 v l.length ((List.replicate l.length (b8 ((j + 1 : Nat) : Int))).map B8) E
theorem rp_snoc (m : Nat) (c : UInt8) : (List.replicate m c).map B8 ++ [B8 c] = (List.replicate (m + 1) c).map B8 := by
  rw [List.replicate_succ', List.map_append]; rfl
theorem rp_get {m k : Nat} {c : UInt8} (h : k < m) : (List.replicate m c).getD k 0 = c := by
  rw [List.getD_eq_getElem?_getD, List.getElem?_replicate, if_pos h]; rfl

set_option maxHeartbeats 4000000 in
theorem grown_c (w0 w : World) (v0 v1 v2 : Value) (l0 l1 l2 : List UInt8) (E0 E1 E2 : Part) (gl : Nat) (H : St w0 [] [E0, E1, E2, [(gl, Rw 22 [v0, v1, v2])]] w) (hE0 : OS 5 1 v0 l0.length (l0.map B8) E0) (hE1 : OS 5 1 v1 l1.length (l1.map B8) E1) (hE2 : OS 5 1 v2 l2.length (l2.map B8) E2) (hl0 : l0.length ≤ 1099511627776) (hl1 : l1.length ≤ 1099511627776) (hl2 : l2.length ≤ 1099511627776) :
    Calls Tryd.prog 12 (([.slice (some (bs gl)) 3 3] : List Value).toArray) w (fun e w' => ∃ v, e = .returned v ∧ v = .bool true ∧ Below w0.heap.size w0 w') := by
  refine calls_mk Tryd.func12 rfl 108 Tryd.ntmps12 rfl ?_
  have H0 : St w0 [] [E0, E1, E2, [(gl, Rw 22 ([v0, v1, v2]))]] w := H
  refine c_seq ?_
  refine c_reg ?_
  refine sy (v := .bool (false)) (y_assign (v := .bool (false)) rfl) ?_
  refine c_nil ?_
  refine n_then ?_
  refine c_seq ?_
  refine c_seq ?_
  refine c_reg ?_
  refine sy (v := I ((0 : Nat) : Int)) (y_assign (v := I ((0 : Nat) : Int)) rfl) ?_
  refine c_nil ?_
  refine n_then ?_
  refine wp_block ?_
  refine c_loop (fun (i : Nat) f1 w2 => ∃ (F0 : Part), ∃ (F1 : Part), ∃ (F2 : Part), f1 0 = .slice (some (bs gl)) 3 3 ∧ f1 3 = I ((i : Nat) : Int) ∧ i ≤ 3 ∧ OS 5 1 v0 l0.length ((fu 0 i l0).map B8) F0 ∧ OS 5 1 v1 l1.length ((fu 1 i l1).map B8) F1 ∧ OS 5 1 v2 l2.length ((fu 2 i l2).map B8) F2 ∧ St w0 [] [F0, F1, F2, [(gl, Rw 22 ([v0, v1, v2]))]] w2) (fun i => 3 - i) 0 ⟨E0, E1, E2, rfl, rfl, (by omega), hE0, hE1, hE2, H0⟩ ?_
  rintro i f1 w2 ⟨F0, F1, F2, s0_3, s3_3, hi, ho0, ho1, ho2, H3⟩
  refine c_seq ?_
  refine c_seq ?_
  refine c_reg ?_
  refine sy (v := I ((i : Nat) : Int)) (y_move s3_3) ?_
  refine sy (v := .slice (some (bs gl)) 3 3) (y_move s0_3) ?_
  refine sy (v := I ((3 : Nat) : Int)) (y_len Tryd.underlying38 rfl) ?_
  refine sy (v := .bool (decide (i < 3))) (n_lss (a := i) (b := 3) rfl rfl) ?_
  refine c_nil ?_
  refine n_then ?_
  refine c_if rfl (fun hc4 => ?_) (fun hc4 => ?_)
  · skip
    obtain rfl | rfl | rfl : i = 0 ∨ i = 1 ∨ i = 2 := by omega
    · skip
      refine wp_skip ?_
      refine n_then ?_
      refine c_seq ?_
      refine wp_block ?_
      refine c_seq ?_
      refine c_reg ?_
      refine sy (v := I ((0 : Nat) : Int)) (y_assign (v := I ((0 : Nat) : Int)) rfl) ?_
      refine c_nil ?_
      refine n_then ?_
      refine wp_block ?_
      refine c_loop (fun (k : Nat) f5 w6 => ∃ (EK : Part), f5 0 = .slice (some (bs gl)) 3 3 ∧ f5 3 = I ((0 : Nat) : Int) ∧ f5 4 = I ((k : Nat) : Int) ∧ k ≤ l0.length ∧ OS 5 1 v0 l0.length ((fk (b8 ((0 + 1 : Nat) : Int)) k l0).map B8) EK ∧ St w0 [] [EK, F1, F2, [(gl, Rw 22 ([v0, v1, v2]))]] w6) (fun k => l0.length - k) 0 ⟨_, s0_3, s3_3, rfl, (Nat.zero_le _), ho0, H3⟩ ?_
      rintro k f5 w6 ⟨EK, s0_7, s3_7, s4_7, hk, hoK, H7⟩
      refine c_seq ?_
      refine c_seq ?_
      refine c_reg ?_
      refine sy (v := I ((k : Nat) : Int)) (y_move s4_7) ?_
      refine sy (v := .slice (some (bs gl)) 3 3) (y_move s0_7) ?_
      refine sy (v := I ((0 : Nat) : Int)) (y_move s3_7) ?_
      refine sy (v := Ad (bs gl) (0 * 1)) (y_ixS (m := 0) Tryd.underlying38 sz22 rfl rfl rfl (by omega)) ?_
      refine sy (v := v0) (y_load sc22 rfl (H7.cell 3 rfl rfl)) ?_
      refine sy (v := I ((l0.length : Nat) : Int)) (y_lenR Tryd.underlying22 (hoK.rd H7 0 rfl) rfl) ?_
      refine sy (v := .bool (decide (k < l0.length))) (n_lss (a := k) (b := l0.length) rfl rfl) ?_
      refine c_nil ?_
      refine n_then ?_
      refine c_if rfl (fun hc8 => ?_) (fun hc8 => ?_)
      · skip
        refine wp_skip ?_
        refine n_then ?_
        refine c_seq ?_
        refine wp_block ?_
        refine c_reg ?_
        refine sy (v := .slice (some (bs gl)) 3 3) (y_move s0_7) ?_
        refine sy (v := I ((0 : Nat) : Int)) (y_move s3_7) ?_
        refine sy (v := Ad (bs gl) (0 * 1)) (y_ixS (m := 0) Tryd.underlying38 sz22 rfl rfl rfl (by omega)) ?_
        refine sy (v := v0) (y_load sc22 rfl (H7.cell 3 rfl rfl)) ?_
        refine sy (v := I ((k : Nat) : Int)) (y_move s4_7) ?_
        refine sy (v := I ((0 : Nat) : Int)) (y_move s3_7) ?_
        refine sy (v := I ((0 + 1 : Nat) : Int)) (n_add (a := 0) (b := 1) rfl rfl (by omega)) ?_
        refine sy (v := B8 (b8 ((0 + 1 : Nat)))) (y_conv_I_8 Tryd.underlying3 Tryd.underlying5 rfl) ?_
        refine sy (v := Ad (sp (v0)) (k * 1)) (y_ixR (m := k) Tryd.underlying22 sz5 (hoK.rd H7 0 rfl) (by decide) rfl rfl rfl (by omega)) ?_
        refine s0 (ow_storeOS (i := k) hoK H7 sz5 rfl rfl rfl (by omega) (by omega)) ?_
        rintro _ w10 ⟨E9, ho12, H11⟩
        refine c_nil ?_
        refine n_block (n_then ?_)
        refine c_reg ?_
        refine sy (v := I ((k : Nat) : Int)) (y_move s4_7) ?_
        refine sy (v := I ((k + 1 : Nat) : Int)) (n_add (a := k) (b := 1) rfl rfl (by omega)) ?_
        refine sy (v := I ((k + 1 : Nat) : Int)) (y_assign rfl) ?_
        refine c_nil ?_
        exact lp_next (k + 1) ⟨E9, s0_7, s3_7, rfl, (by omega), (fk_step (c := b8 ((0 + 1 : Nat) : Int)) (k := k) (l := l0) (by omega) ▸ ho12), H11⟩ (by show _ < _; omega)
      · skip
        obtain rfl : k = l0.length := by omega
        rw [fk_end] at hoK
        refine wp_exit ?_
        refine x_then (x_then (x_hit (n_block (n_then ?_))))
        refine c_reg ?_
        refine sy (v := I ((0 : Nat) : Int)) (y_move s3_7) ?_
        refine sy (v := I ((0 + 1 : Nat) : Int)) (n_add (a := 0) (b := 1) rfl rfl (by omega)) ?_
        refine sy (v := I ((0 + 1 : Nat) : Int)) (y_assign rfl) ?_
        refine c_nil ?_
        exact lp_next (0 + 1) ⟨EK, F1, F2, s0_7, rfl, (by omega), hoK, ho1, ho2, H7⟩ (by show _ < _; omega)
    · skip
      refine wp_skip ?_
      refine n_then ?_
      refine c_seq ?_
      refine wp_block ?_
      refine c_seq ?_
      refine c_reg ?_
      refine sy (v := I ((0 : Nat) : Int)) (y_assign (v := I ((0 : Nat) : Int)) rfl) ?_
      refine c_nil ?_
      refine n_then ?_
      refine wp_block ?_
      refine c_loop (fun (k : Nat) f13 w14 => ∃ (EK : Part), f13 0 = .slice (some (bs gl)) 3 3 ∧ f13 3 = I ((1 : Nat) : Int) ∧ f13 4 = I ((k : Nat) : Int) ∧ k ≤ l1.length ∧ OS 5 1 v1 l1.length ((fk (b8 ((1 + 1 : Nat) : Int)) k l1).map B8) EK ∧ St w0 [] [F0, EK, F2, [(gl, Rw 22 ([v0, v1, v2]))]] w14) (fun k => l1.length - k) 0 ⟨_, s0_3, s3_3, rfl, (Nat.zero_le _), ho1, H3⟩ ?_
      rintro k f13 w14 ⟨EK, s0_15, s3_15, s4_15, hk, hoK, H15⟩
      refine c_seq ?_
      refine c_seq ?_
      refine c_reg ?_
      refine sy (v := I ((k : Nat) : Int)) (y_move s4_15) ?_
      refine sy (v := .slice (some (bs gl)) 3 3) (y_move s0_15) ?_
      refine sy (v := I ((1 : Nat) : Int)) (y_move s3_15) ?_
      refine sy (v := Ad (bs gl) (1 * 1)) (y_ixS (m := 1) Tryd.underlying38 sz22 rfl rfl rfl (by omega)) ?_
      refine sy (v := v1) (y_load sc22 rfl (H15.cell 3 rfl rfl)) ?_
      refine sy (v := I ((l1.length : Nat) : Int)) (y_lenR Tryd.underlying22 (hoK.rd H15 1 rfl) rfl) ?_
      refine sy (v := .bool (decide (k < l1.length))) (n_lss (a := k) (b := l1.length) rfl rfl) ?_
      refine c_nil ?_
      refine n_then ?_
      refine c_if rfl (fun hc16 => ?_) (fun hc16 => ?_)
      · skip
        refine wp_skip ?_
        refine n_then ?_
        refine c_seq ?_
        refine wp_block ?_
        refine c_reg ?_
        refine sy (v := .slice (some (bs gl)) 3 3) (y_move s0_15) ?_
        refine sy (v := I ((1 : Nat) : Int)) (y_move s3_15) ?_
        refine sy (v := Ad (bs gl) (1 * 1)) (y_ixS (m := 1) Tryd.underlying38 sz22 rfl rfl rfl (by omega)) ?_
        refine sy (v := v1) (y_load sc22 rfl (H15.cell 3 rfl rfl)) ?_
        refine sy (v := I ((k : Nat) : Int)) (y_move s4_15) ?_
        refine sy (v := I ((1 : Nat) : Int)) (y_move s3_15) ?_
        refine sy (v := I ((1 + 1 : Nat) : Int)) (n_add (a := 1) (b := 1) rfl rfl (by omega)) ?_
        refine sy (v := B8 (b8 ((1 + 1 : Nat)))) (y_conv_I_8 Tryd.underlying3 Tryd.underlying5 rfl) ?_
        refine sy (v := Ad (sp (v1)) (k * 1)) (y_ixR (m := k) Tryd.underlying22 sz5 (hoK.rd H15 1 rfl) (by decide) rfl rfl rfl (by omega)) ?_
        have H17 : St w0 [] [EK, F0, F2, [(gl, Rw 22 ([v0, v1, v2]))]] w14 := H15.foc 1 rfl rfl
        refine s0 (ow_storeOS (i := k) hoK H17 sz5 rfl rfl rfl (by omega) (by omega)) ?_
        rintro _ w19 ⟨E18, ho21, H20⟩
        refine c_nil ?_
        refine n_block (n_then ?_)
        refine c_reg ?_
        refine sy (v := I ((k : Nat) : Int)) (y_move s4_15) ?_
        refine sy (v := I ((k + 1 : Nat) : Int)) (n_add (a := k) (b := 1) rfl rfl (by omega)) ?_
        refine sy (v := I ((k + 1 : Nat) : Int)) (y_assign rfl) ?_
        refine c_nil ?_
        have H22 : St w0 [] [[(gl, Rw 22 ([v0, v1, v2]))], E18, F0, F2] w19 := H20.foc 3 rfl rfl
        have H23 : St w0 [] [F2, [(gl, Rw 22 ([v0, v1, v2]))], E18, F0] w19 := H22.foc 3 rfl rfl
        have H24 : St w0 [] [E18, F2, [(gl, Rw 22 ([v0, v1, v2]))], F0] w19 := H23.foc 2 rfl rfl
        have H25 : St w0 [] [F0, E18, F2, [(gl, Rw 22 ([v0, v1, v2]))]] w19 := H24.foc 3 rfl rfl
        exact lp_next (k + 1) ⟨E18, s0_15, s3_15, rfl, (by omega), (fk_step (c := b8 ((1 + 1 : Nat) : Int)) (k := k) (l := l1) (by omega) ▸ ho21), H25⟩ (by show _ < _; omega)
      · skip
        obtain rfl : k = l1.length := by omega
        rw [fk_end] at hoK
        refine wp_exit ?_
        refine x_then (x_then (x_hit (n_block (n_then ?_))))
        refine c_reg ?_
        refine sy (v := I ((1 : Nat) : Int)) (y_move s3_15) ?_
        refine sy (v := I ((1 + 1 : Nat) : Int)) (n_add (a := 1) (b := 1) rfl rfl (by omega)) ?_
        refine sy (v := I ((1 + 1 : Nat) : Int)) (y_assign rfl) ?_
        refine c_nil ?_
        exact lp_next (1 + 1) ⟨F0, EK, F2, s0_15, rfl, (by omega), ho0, hoK, ho2, H15⟩ (by show _ < _; omega)
    · skip
      refine wp_skip ?_
      refine n_then ?_
      refine c_seq ?_
      refine wp_block ?_
      refine c_seq ?_
      refine c_reg ?_
      refine sy (v := I ((0 : Nat) : Int)) (y_assign (v := I ((0 : Nat) : Int)) rfl) ?_
      refine c_nil ?_
      refine n_then ?_
      refine wp_block ?_
      refine c_loop (fun (k : Nat) f26 w27 => ∃ (EK : Part), f26 0 = .slice (some (bs gl)) 3 3 ∧ f26 3 = I ((2 : Nat) : Int) ∧ f26 4 = I ((k : Nat) : Int) ∧ k ≤ l2.length ∧ OS 5 1 v2 l2.length ((fk (b8 ((2 + 1 : Nat) : Int)) k l2).map B8) EK ∧ St w0 [] [F0, F1, EK, [(gl, Rw 22 ([v0, v1, v2]))]] w27) (fun k => l2.length - k) 0 ⟨_, s0_3, s3_3, rfl, (Nat.zero_le _), ho2, H3⟩ ?_
      rintro k f26 w27 ⟨EK, s0_28, s3_28, s4_28, hk, hoK, H28⟩
      refine c_seq ?_
      refine c_seq ?_
      refine c_reg ?_
      refine sy (v := I ((k : Nat) : Int)) (y_move s4_28) ?_
      refine sy (v := .slice (some (bs gl)) 3 3) (y_move s0_28) ?_
      refine sy (v := I ((2 : Nat) : Int)) (y_move s3_28) ?_
      refine sy (v := Ad (bs gl) (2 * 1)) (y_ixS (m := 2) Tryd.underlying38 sz22 rfl rfl rfl (by omega)) ?_
      refine sy (v := v2) (y_load sc22 rfl (H28.cell 3 rfl rfl)) ?_
      refine sy (v := I ((l2.length : Nat) : Int)) (y_lenR Tryd.underlying22 (hoK.rd H28 2 rfl) rfl) ?_
      refine sy (v := .bool (decide (k < l2.length))) (n_lss (a := k) (b := l2.length) rfl rfl) ?_
      refine c_nil ?_
      refine n_then ?_
      refine c_if rfl (fun hc29 => ?_) (fun hc29 => ?_)
      · skip
        refine wp_skip ?_
        refine n_then ?_
        refine c_seq ?_
        refine wp_block ?_
        refine c_reg ?_
        refine sy (v := .slice (some (bs gl)) 3 3) (y_move s0_28) ?_
        refine sy (v := I ((2 : Nat) : Int)) (y_move s3_28) ?_
        refine sy (v := Ad (bs gl) (2 * 1)) (y_ixS (m := 2) Tryd.underlying38 sz22 rfl rfl rfl (by omega)) ?_
        refine sy (v := v2) (y_load sc22 rfl (H28.cell 3 rfl rfl)) ?_
        refine sy (v := I ((k : Nat) : Int)) (y_move s4_28) ?_
        refine sy (v := I ((2 : Nat) : Int)) (y_move s3_28) ?_
        refine sy (v := I ((2 + 1 : Nat) : Int)) (n_add (a := 2) (b := 1) rfl rfl (by omega)) ?_
        refine sy (v := B8 (b8 ((2 + 1 : Nat)))) (y_conv_I_8 Tryd.underlying3 Tryd.underlying5 rfl) ?_
        refine sy (v := Ad (sp (v2)) (k * 1)) (y_ixR (m := k) Tryd.underlying22 sz5 (hoK.rd H28 2 rfl) (by decide) rfl rfl rfl (by omega)) ?_
        have H30 : St w0 [] [EK, F0, F1, [(gl, Rw 22 ([v0, v1, v2]))]] w27 := H28.foc 2 rfl rfl
        refine s0 (ow_storeOS (i := k) hoK H30 sz5 rfl rfl rfl (by omega) (by omega)) ?_
        rintro _ w32 ⟨E31, ho34, H33⟩
        refine c_nil ?_
        refine n_block (n_then ?_)
        refine c_reg ?_
        refine sy (v := I ((k : Nat) : Int)) (y_move s4_28) ?_
        refine sy (v := I ((k + 1 : Nat) : Int)) (n_add (a := k) (b := 1) rfl rfl (by omega)) ?_
        refine sy (v := I ((k + 1 : Nat) : Int)) (y_assign rfl) ?_
        refine c_nil ?_
        have H35 : St w0 [] [[(gl, Rw 22 ([v0, v1, v2]))], E31, F0, F1] w32 := H33.foc 3 rfl rfl
        have H36 : St w0 [] [E31, [(gl, Rw 22 ([v0, v1, v2]))], F0, F1] w32 := H35.foc 1 rfl rfl
        have H37 : St w0 [] [F1, E31, [(gl, Rw 22 ([v0, v1, v2]))], F0] w32 := H36.foc 3 rfl rfl
        have H38 : St w0 [] [F0, F1, E31, [(gl, Rw 22 ([v0, v1, v2]))]] w32 := H37.foc 3 rfl rfl
        exact lp_next (k + 1) ⟨E31, s0_28, s3_28, rfl, (by omega), (fk_step (c := b8 ((2 + 1 : Nat) : Int)) (k := k) (l := l2) (by omega) ▸ ho34), H38⟩ (by show _ < _; omega)
      · skip
        obtain rfl : k = l2.length := by omega
        rw [fk_end] at hoK
        refine wp_exit ?_
        refine x_then (x_then (x_hit (n_block (n_then ?_))))
        refine c_reg ?_
        refine sy (v := I ((2 : Nat) : Int)) (y_move s3_28) ?_
        refine sy (v := I ((2 + 1 : Nat) : Int)) (n_add (a := 2) (b := 1) rfl rfl (by omega)) ?_
        refine sy (v := I ((2 + 1 : Nat) : Int)) (y_assign rfl) ?_
        refine c_nil ?_
        exact lp_next (2 + 1) ⟨F0, F1, EK, s0_28, rfl, (by omega), ho0, ho1, hoK, H28⟩ (by show _ < _; omega)
  · skip
    obtain rfl : i = 3 := by omega
    have hp0 : OS 5 1 v0 l0.length ((List.replicate (l0.length) (b8 ((0 + 1 : Nat) : Int))).map B8) F0 := ho0
    have hp1 : OS 5 1 v1 l1.length ((List.replicate (l1.length) (b8 ((1 + 1 : Nat) : Int))).map B8) F1 := ho1
    have hp2 : OS 5 1 v2 l2.length ((List.replicate (l2.length) (b8 ((2 + 1 : Nat) : Int))).map B8) F2 := ho2
    refine wp_exit ?_
    refine x_then (x_then (x_hit (n_then ?_)))
    refine c_seq ?_
    refine c_reg ?_
    refine st (ow_buildSlice (pv := []) (us := []) Tryd.underlying38 sz22 zr22 H3 trivial (by decide) fill0) ?_
    rintro _ w40 ⟨g39, rfl, H41⟩
    refine sy (v := .slice (some (bs g39)) 0 0) (y_assign rfl) ?_
    refine c_nil ?_
    refine n_then ?_
    refine c_seq ?_
    refine c_seq ?_
    refine c_reg ?_
    refine sy (v := I ((0 : Nat) : Int)) (y_assign (v := I ((0 : Nat) : Int)) rfl) ?_
    refine c_nil ?_
    refine n_then ?_
    refine wp_block ?_
    refine c_loop (fun (ib : Nat) f42 w43 => ∃ (u0 : Value), ∃ (u1 : Value), ∃ (u2 : Value), ∃ (tv : Value), ∃ (EL : Part), ∃ (G0 : Part), ∃ (G1 : Part), ∃ (G2 : Part), f42 0 = .slice (some (bs gl)) 3 3 ∧ f42 5 = tv ∧ f42 6 = I ((ib : Nat) : Int) ∧ ib ≤ 3 ∧ OS 22 1 tv ib (([u0, u1, u2] : List Value).take ib) EL ∧ GT 0 ib v0 u0 l0 G0 ∧ GT 1 ib v1 u1 l1 G1 ∧ GT 2 ib v2 u2 l2 G2 ∧ St w0 [] [EL, G0, G1, G2, [(gl, Rw 22 ([v0, v1, v2]))]] w43) (fun ib => 3 - ib) 0 ⟨undef, undef, undef, _, _, F0, F1, F2, s0_3, rfl, rfl, (by omega), (os_lit (k := 0) rfl (by simp [maxLen])), hp0, hp1, hp2, H41⟩ ?_
    rintro ib f42 w43 ⟨u0, u1, u2, tv, EL, G0, G1, G2, s0_44, s5_44, s6_44, hi, hoL, hg0, hg1, hg2, H44⟩
    refine c_seq ?_
    refine c_seq ?_
    refine c_reg ?_
    refine sy (v := I ((ib : Nat) : Int)) (y_move s6_44) ?_
    refine sy (v := .slice (some (bs gl)) 3 3) (y_move s0_44) ?_
    refine sy (v := I ((3 : Nat) : Int)) (y_len Tryd.underlying38 rfl) ?_
    refine sy (v := .bool (decide (ib < 3))) (n_lss (a := ib) (b := 3) rfl rfl) ?_
    refine c_nil ?_
    refine n_then ?_
    refine c_if rfl (fun hc45 => ?_) (fun hc45 => ?_)
    · skip
      obtain rfl | rfl | rfl : ib = 0 ∨ ib = 1 ∨ ib = 2 := by omega
      · skip
        have hq : OS 5 1 v0 l0.length ((List.replicate (l0.length) (b8 ((0 + 1 : Nat) : Int))).map B8) G0 := hg0
        have hoM : OS 22 1 tv 0 [] EL := hoL
        refine wp_skip ?_
        refine n_then ?_
        refine c_seq ?_
        refine wp_block ?_
        refine c_seq ?_
        refine c_reg ?_
        refine sy (v := .slice (some (bs gl)) 3 3) (y_move s0_44) ?_
        refine sy (v := I ((0 : Nat) : Int)) (y_move s6_44) ?_
        refine sy (v := Ad (bs gl) (0 * 1)) (y_ixS (m := 0) Tryd.underlying38 sz22 rfl rfl rfl (by omega)) ?_
        refine sy (v := v0) (y_load sc22 rfl (H44.cell 4 rfl rfl)) ?_
        refine sy (v := v0) (y_assign rfl) ?_
        refine c_nil ?_
        refine n_then ?_
        refine c_seq ?_
        refine c_seq ?_
        refine c_reg ?_
        refine sy (v := I ((0 : Nat) : Int)) (y_assign (v := I ((0 : Nat) : Int)) rfl) ?_
        refine c_nil ?_
        refine n_then ?_
        refine wp_block ?_
        refine c_loop (fun (kb : Nat) f46 w47 => ∃ (uv : Value), ∃ (EZ : Part), f46 0 = .slice (some (bs gl)) 3 3 ∧ f46 5 = tv ∧ f46 6 = I ((0 : Nat) : Int) ∧ f46 7 = uv ∧ f46 8 = I ((kb : Nat) : Int) ∧ kb ≤ 70 ∧ TS 5 1 v0 l0.length ((List.replicate (l0.length) (b8 ((0 + 1 : Nat) : Int))).map B8) uv (l0.length + kb) ((List.replicate (l0.length + kb) (b8 ((0 + 1 : Nat) : Int))).map B8) EZ ∧ St w0 [] [EL, EZ, G1, G2, [(gl, Rw 22 ([v0, v1, v2]))]] w47) (fun kb => 70 - kb) 0 ⟨_, _, s0_44, s5_44, s6_44, rfl, rfl, (by omega), (TS.refl hq), H44⟩ ?_
        rintro kb f46 w47 ⟨uv, EZ, s0_48, s5_48, s6_48, s7_48, s8_48, hk, hts, H48⟩
        refine c_seq ?_
        refine c_seq ?_
        refine c_reg ?_
        refine sy (v := I ((kb : Nat) : Int)) (y_move s8_48) ?_
        refine sy (v := .bool (decide (kb < 70))) (n_lss (a := kb) (b := 70) rfl rfl) ?_
        refine c_nil ?_
        refine n_then ?_
        refine c_if rfl (fun hc49 => ?_) (fun hc49 => ?_)
        · skip
          refine wp_skip ?_
          refine n_then ?_
          refine c_seq ?_
          refine wp_block ?_
          refine c_reg ?_
          refine sy (v := uv) (y_move s7_48) ?_
          refine sy (v := I ((0 : Nat) : Int)) (y_move s6_48) ?_
          refine sy (v := I ((0 + 1 : Nat) : Int)) (n_add (a := 0) (b := 1) rfl rfl (by omega)) ?_
          refine sy (v := B8 (b8 ((0 + 1 : Nat)))) (y_conv_I_8 Tryd.underlying3 Tryd.underlying5 rfl) ?_
          refine st (ow_buildSlice (pv := [(0, B8 (b8 ((0 + 1 : Nat))))]) (us := [B8 (b8 ((0 + 1 : Nat)))]) Tryd.underlying22 sz5 zr5 H48 ⟨⟨rfl, rfl⟩, trivial⟩ (by decide) (fill1 rfl)) ?_
          rintro _ w51 ⟨g50, rfl, H52⟩
          have H53 : St w0 [] [EZ, [(g50, Rw 5 ([B8 (b8 ((0 + 1 : Nat)))]))], EL, G1, G2, [(gl, Rw 22 ([v0, v1, v2]))]] w51 := H52.foc 2 rfl rfl
          refine st (ow_append_ts Tryd.underlying22 sz5 zr5 bt5 rfl hts H53 rfl rfl ((rd_lit (k := 1) (us := [B8 (b8 ((0 + 1 : Nat)))]) H52 0 rfl rfl (by simp [maxLen])).src Tryd.underlying22 (by simp [Value.oneCell'])) (by omega) (by omega)) ?_
          rintro v55 w56 ⟨E54, ho58, H57⟩
          refine sy (v := v55) (y_assign rfl) ?_
          refine c_nil ?_
          refine n_block (n_then ?_)
          refine c_reg ?_
          refine sy (v := I ((kb : Nat) : Int)) (y_move s8_48) ?_
          refine sy (v := I ((kb + 1 : Nat) : Int)) (n_add (a := kb) (b := 1) rfl rfl (by omega)) ?_
          refine sy (v := I ((kb + 1 : Nat) : Int)) (y_assign rfl) ?_
          refine c_nil ?_
          have H59 : St w0 [] [[(gl, Rw 22 ([v0, v1, v2]))], E54, [(g50, Rw 5 ([B8 (b8 ((0 + 1 : Nat)))]))], EL, G1, G2] w56 := H57.foc 5 rfl rfl
          have H60 : St w0 [] [G2, [(gl, Rw 22 ([v0, v1, v2]))], E54, [(g50, Rw 5 ([B8 (b8 ((0 + 1 : Nat)))]))], EL, G1] w56 := H59.foc 5 rfl rfl
          have H61 : St w0 [] [G1, G2, [(gl, Rw 22 ([v0, v1, v2]))], E54, [(g50, Rw 5 ([B8 (b8 ((0 + 1 : Nat)))]))], EL] w56 := H60.foc 5 rfl rfl
          have H62 : St w0 [] [E54, G1, G2, [(gl, Rw 22 ([v0, v1, v2]))], [(g50, Rw 5 ([B8 (b8 ((0 + 1 : Nat)))]))], EL] w56 := H61.foc 3 rfl rfl
          have H63 : St w0 [] [EL, E54, G1, G2, [(gl, Rw 22 ([v0, v1, v2]))], [(g50, Rw 5 ([B8 (b8 ((0 + 1 : Nat)))]))]] w56 := H62.foc 5 rfl rfl
          have H64 : St w0 [] [EL, E54, G1, G2, [(gl, Rw 22 ([v0, v1, v2]))]] w56 := H63.take 5 rfl
          exact lp_next (kb + 1) ⟨v55, E54, s0_48, s5_48, s6_48, rfl, rfl, (by omega), (by rw [← Nat.add_assoc, ← rp_snoc]; exact ho58), H64⟩ (by show _ < _; omega)
        · skip
          obtain rfl : kb = 70 := by omega
          refine wp_exit ?_
          refine x_then (x_then (x_hit (n_then ?_)))
          refine c_reg ?_
          refine sy (v := tv) (y_move s5_48) ?_
          refine sy (v := uv) (y_move s7_48) ?_
          refine st (ow_buildSlice (pv := [(0, uv)]) (us := [uv]) Tryd.underlying38 sz22 zr22 H48 ⟨⟨rfl, rfl⟩, trivial⟩ (by decide) (fill1 (hts.rdu H48 1 rfl).cells)) ?_
          rintro _ w66 ⟨g65, rfl, H67⟩
          have H68 : St w0 [] [EL, [(g65, Rw 22 ([uv]))], EZ, G1, G2, [(gl, Rw 22 ([v0, v1, v2]))]] w66 := H67.foc 1 rfl rfl
          refine st (ow_append Tryd.underlying38 sz22 zr22 bt22 rfl hoM H68 rfl rfl ((rd_lit (k := 1) (us := [uv]) H67 0 rfl rfl (by simp [maxLen])).src Tryd.underlying38 (by intro u hu; simp only [List.mem_cons, List.not_mem_nil, or_false] at hu; subst hu; exact Rd.one (hts.rdu H67 2 rfl))) (by omega) (by omega)) ?_
          rintro v70 w71 ⟨E69, ho73, H72⟩
          refine sy (v := v70) (y_assign rfl) ?_
          refine c_nil ?_
          refine n_block (n_then ?_)
          refine c_reg ?_
          refine sy (v := I ((0 : Nat) : Int)) (y_move s6_48) ?_
          refine sy (v := I ((0 + 1 : Nat) : Int)) (n_add (a := 0) (b := 1) rfl rfl (by omega)) ?_
          refine sy (v := I ((0 + 1 : Nat) : Int)) (y_assign rfl) ?_
          refine c_nil ?_
          have H74 : St w0 [] [[(gl, Rw 22 ([v0, v1, v2]))], E69, [(g65, Rw 22 ([uv]))], EZ, G1, G2] w71 := H72.foc 5 rfl rfl
          have H75 : St w0 [] [G2, [(gl, Rw 22 ([v0, v1, v2]))], E69, [(g65, Rw 22 ([uv]))], EZ, G1] w71 := H74.foc 5 rfl rfl
          have H76 : St w0 [] [G1, G2, [(gl, Rw 22 ([v0, v1, v2]))], E69, [(g65, Rw 22 ([uv]))], EZ] w71 := H75.foc 5 rfl rfl
          have H77 : St w0 [] [EZ, G1, G2, [(gl, Rw 22 ([v0, v1, v2]))], E69, [(g65, Rw 22 ([uv]))]] w71 := H76.foc 5 rfl rfl
          have H78 : St w0 [] [E69, EZ, G1, G2, [(gl, Rw 22 ([v0, v1, v2]))], [(g65, Rw 22 ([uv]))]] w71 := H77.foc 4 rfl rfl
          have H79 : St w0 [] [E69, EZ, G1, G2, [(gl, Rw 22 ([v0, v1, v2]))]] w71 := H78.take 5 rfl
          exact lp_next (0 + 1) ⟨uv, u1, u2, v70, E69, EZ, G1, G2, s0_48, rfl, rfl, (by omega), ho73, hts, hg1, hg2, H79⟩ (by show _ < _; omega)
      · skip
        have hq : OS 5 1 v1 l1.length ((List.replicate (l1.length) (b8 ((1 + 1 : Nat) : Int))).map B8) G1 := hg1
        have hoM : OS 22 1 tv 1 [u0] EL := hoL
        refine wp_skip ?_
        refine n_then ?_
        refine c_seq ?_
        refine wp_block ?_
        refine c_seq ?_
        refine c_reg ?_
        refine sy (v := .slice (some (bs gl)) 3 3) (y_move s0_44) ?_
        refine sy (v := I ((1 : Nat) : Int)) (y_move s6_44) ?_
        refine sy (v := Ad (bs gl) (1 * 1)) (y_ixS (m := 1) Tryd.underlying38 sz22 rfl rfl rfl (by omega)) ?_
        refine sy (v := v1) (y_load sc22 rfl (H44.cell 4 rfl rfl)) ?_
        refine sy (v := v1) (y_assign rfl) ?_
        refine c_nil ?_
        refine n_then ?_
        refine c_seq ?_
        refine c_seq ?_
        refine c_reg ?_
        refine sy (v := I ((0 : Nat) : Int)) (y_assign (v := I ((0 : Nat) : Int)) rfl) ?_
        refine c_nil ?_
        refine n_then ?_
        refine wp_block ?_
        refine c_loop (fun (kb : Nat) f80 w81 => ∃ (uv : Value), ∃ (EZ : Part), f80 0 = .slice (some (bs gl)) 3 3 ∧ f80 5 = tv ∧ f80 6 = I ((1 : Nat) : Int) ∧ f80 7 = uv ∧ f80 8 = I ((kb : Nat) : Int) ∧ kb ≤ 70 ∧ TS 5 1 v1 l1.length ((List.replicate (l1.length) (b8 ((1 + 1 : Nat) : Int))).map B8) uv (l1.length + kb) ((List.replicate (l1.length + kb) (b8 ((1 + 1 : Nat) : Int))).map B8) EZ ∧ St w0 [] [EL, G0, EZ, G2, [(gl, Rw 22 ([v0, v1, v2]))]] w81) (fun kb => 70 - kb) 0 ⟨_, _, s0_44, s5_44, s6_44, rfl, rfl, (by omega), (TS.refl hq), H44⟩ ?_
        rintro kb f80 w81 ⟨uv, EZ, s0_82, s5_82, s6_82, s7_82, s8_82, hk, hts, H82⟩
        refine c_seq ?_
        refine c_seq ?_
        refine c_reg ?_
        refine sy (v := I ((kb : Nat) : Int)) (y_move s8_82) ?_
        refine sy (v := .bool (decide (kb < 70))) (n_lss (a := kb) (b := 70) rfl rfl) ?_
        refine c_nil ?_
        refine n_then ?_
        refine c_if rfl (fun hc83 => ?_) (fun hc83 => ?_)
        · skip
          refine wp_skip ?_
          refine n_then ?_
          refine c_seq ?_
          refine wp_block ?_
          refine c_reg ?_
          refine sy (v := uv) (y_move s7_82) ?_
          refine sy (v := I ((1 : Nat) : Int)) (y_move s6_82) ?_
          refine sy (v := I ((1 + 1 : Nat) : Int)) (n_add (a := 1) (b := 1) rfl rfl (by omega)) ?_
          refine sy (v := B8 (b8 ((1 + 1 : Nat)))) (y_conv_I_8 Tryd.underlying3 Tryd.underlying5 rfl) ?_
          refine st (ow_buildSlice (pv := [(0, B8 (b8 ((1 + 1 : Nat))))]) (us := [B8 (b8 ((1 + 1 : Nat)))]) Tryd.underlying22 sz5 zr5 H82 ⟨⟨rfl, rfl⟩, trivial⟩ (by decide) (fill1 rfl)) ?_
          rintro _ w85 ⟨g84, rfl, H86⟩
          have H87 : St w0 [] [EZ, [(g84, Rw 5 ([B8 (b8 ((1 + 1 : Nat)))]))], EL, G0, G2, [(gl, Rw 22 ([v0, v1, v2]))]] w85 := H86.foc 3 rfl rfl
          refine st (ow_append_ts Tryd.underlying22 sz5 zr5 bt5 rfl hts H87 rfl rfl ((rd_lit (k := 1) (us := [B8 (b8 ((1 + 1 : Nat)))]) H86 0 rfl rfl (by simp [maxLen])).src Tryd.underlying22 (by simp [Value.oneCell'])) (by omega) (by omega)) ?_
          rintro v89 w90 ⟨E88, ho92, H91⟩
          refine sy (v := v89) (y_assign rfl) ?_
          refine c_nil ?_
          refine n_block (n_then ?_)
          refine c_reg ?_
          refine sy (v := I ((kb : Nat) : Int)) (y_move s8_82) ?_
          refine sy (v := I ((kb + 1 : Nat) : Int)) (n_add (a := kb) (b := 1) rfl rfl (by omega)) ?_
          refine sy (v := I ((kb + 1 : Nat) : Int)) (y_assign rfl) ?_
          refine c_nil ?_
          have H93 : St w0 [] [[(gl, Rw 22 ([v0, v1, v2]))], E88, [(g84, Rw 5 ([B8 (b8 ((1 + 1 : Nat)))]))], EL, G0, G2] w90 := H91.foc 5 rfl rfl
          have H94 : St w0 [] [G2, [(gl, Rw 22 ([v0, v1, v2]))], E88, [(g84, Rw 5 ([B8 (b8 ((1 + 1 : Nat)))]))], EL, G0] w90 := H93.foc 5 rfl rfl
          have H95 : St w0 [] [E88, G2, [(gl, Rw 22 ([v0, v1, v2]))], [(g84, Rw 5 ([B8 (b8 ((1 + 1 : Nat)))]))], EL, G0] w90 := H94.foc 2 rfl rfl
          have H96 : St w0 [] [G0, E88, G2, [(gl, Rw 22 ([v0, v1, v2]))], [(g84, Rw 5 ([B8 (b8 ((1 + 1 : Nat)))]))], EL] w90 := H95.foc 5 rfl rfl
          have H97 : St w0 [] [EL, G0, E88, G2, [(gl, Rw 22 ([v0, v1, v2]))], [(g84, Rw 5 ([B8 (b8 ((1 + 1 : Nat)))]))]] w90 := H96.foc 5 rfl rfl
          have H98 : St w0 [] [EL, G0, E88, G2, [(gl, Rw 22 ([v0, v1, v2]))]] w90 := H97.take 5 rfl
          exact lp_next (kb + 1) ⟨v89, E88, s0_82, s5_82, s6_82, rfl, rfl, (by omega), (by rw [← Nat.add_assoc, ← rp_snoc]; exact ho92), H98⟩ (by show _ < _; omega)
        · skip
          obtain rfl : kb = 70 := by omega
          refine wp_exit ?_
          refine x_then (x_then (x_hit (n_then ?_)))
          refine c_reg ?_
          refine sy (v := tv) (y_move s5_82) ?_
          refine sy (v := uv) (y_move s7_82) ?_
          refine st (ow_buildSlice (pv := [(0, uv)]) (us := [uv]) Tryd.underlying38 sz22 zr22 H82 ⟨⟨rfl, rfl⟩, trivial⟩ (by decide) (fill1 (hts.rdu H82 2 rfl).cells)) ?_
          rintro _ w100 ⟨g99, rfl, H101⟩
          have H102 : St w0 [] [EL, [(g99, Rw 22 ([uv]))], G0, EZ, G2, [(gl, Rw 22 ([v0, v1, v2]))]] w100 := H101.foc 1 rfl rfl
          refine st (ow_append Tryd.underlying38 sz22 zr22 bt22 rfl hoM H102 rfl rfl ((rd_lit (k := 1) (us := [uv]) H101 0 rfl rfl (by simp [maxLen])).src Tryd.underlying38 (by intro u hu; simp only [List.mem_cons, List.not_mem_nil, or_false] at hu; subst hu; exact Rd.one (hts.rdu H101 3 rfl))) (by omega) (by omega)) ?_
          rintro v104 w105 ⟨E103, ho107, H106⟩
          refine sy (v := v104) (y_assign rfl) ?_
          refine c_nil ?_
          refine n_block (n_then ?_)
          refine c_reg ?_
          refine sy (v := I ((1 : Nat) : Int)) (y_move s6_82) ?_
          refine sy (v := I ((1 + 1 : Nat) : Int)) (n_add (a := 1) (b := 1) rfl rfl (by omega)) ?_
          refine sy (v := I ((1 + 1 : Nat) : Int)) (y_assign rfl) ?_
          refine c_nil ?_
          have H108 : St w0 [] [[(gl, Rw 22 ([v0, v1, v2]))], E103, [(g99, Rw 22 ([uv]))], G0, EZ, G2] w105 := H106.foc 5 rfl rfl
          have H109 : St w0 [] [G2, [(gl, Rw 22 ([v0, v1, v2]))], E103, [(g99, Rw 22 ([uv]))], G0, EZ] w105 := H108.foc 5 rfl rfl
          have H110 : St w0 [] [EZ, G2, [(gl, Rw 22 ([v0, v1, v2]))], E103, [(g99, Rw 22 ([uv]))], G0] w105 := H109.foc 5 rfl rfl
          have H111 : St w0 [] [G0, EZ, G2, [(gl, Rw 22 ([v0, v1, v2]))], E103, [(g99, Rw 22 ([uv]))]] w105 := H110.foc 5 rfl rfl
          have H112 : St w0 [] [E103, G0, EZ, G2, [(gl, Rw 22 ([v0, v1, v2]))], [(g99, Rw 22 ([uv]))]] w105 := H111.foc 4 rfl rfl
          have H113 : St w0 [] [E103, G0, EZ, G2, [(gl, Rw 22 ([v0, v1, v2]))]] w105 := H112.take 5 rfl
          exact lp_next (1 + 1) ⟨u0, uv, u2, v104, E103, G0, EZ, G2, s0_82, rfl, rfl, (by omega), ho107, hg0, hts, hg2, H113⟩ (by show _ < _; omega)
      · skip
        have hq : OS 5 1 v2 l2.length ((List.replicate (l2.length) (b8 ((2 + 1 : Nat) : Int))).map B8) G2 := hg2
        have hoM : OS 22 1 tv 2 [u0, u1] EL := hoL
        refine wp_skip ?_
        refine n_then ?_
        refine c_seq ?_
        refine wp_block ?_
        refine c_seq ?_
        refine c_reg ?_
        refine sy (v := .slice (some (bs gl)) 3 3) (y_move s0_44) ?_
        refine sy (v := I ((2 : Nat) : Int)) (y_move s6_44) ?_
        refine sy (v := Ad (bs gl) (2 * 1)) (y_ixS (m := 2) Tryd.underlying38 sz22 rfl rfl rfl (by omega)) ?_
        refine sy (v := v2) (y_load sc22 rfl (H44.cell 4 rfl rfl)) ?_
        refine sy (v := v2) (y_assign rfl) ?_
        refine c_nil ?_
        refine n_then ?_
        refine c_seq ?_
        refine c_seq ?_
        refine c_reg ?_
        refine sy (v := I ((0 : Nat) : Int)) (y_assign (v := I ((0 : Nat) : Int)) rfl) ?_
        refine c_nil ?_
        refine n_then ?_
        refine wp_block ?_
        refine c_loop (fun (kb : Nat) f114 w115 => ∃ (uv : Value), ∃ (EZ : Part), f114 0 = .slice (some (bs gl)) 3 3 ∧ f114 5 = tv ∧ f114 6 = I ((2 : Nat) : Int) ∧ f114 7 = uv ∧ f114 8 = I ((kb : Nat) : Int) ∧ kb ≤ 70 ∧ TS 5 1 v2 l2.length ((List.replicate (l2.length) (b8 ((2 + 1 : Nat) : Int))).map B8) uv (l2.length + kb) ((List.replicate (l2.length + kb) (b8 ((2 + 1 : Nat) : Int))).map B8) EZ ∧ St w0 [] [EL, G0, G1, EZ, [(gl, Rw 22 ([v0, v1, v2]))]] w115) (fun kb => 70 - kb) 0 ⟨_, _, s0_44, s5_44, s6_44, rfl, rfl, (by omega), (TS.refl hq), H44⟩ ?_
        rintro kb f114 w115 ⟨uv, EZ, s0_116, s5_116, s6_116, s7_116, s8_116, hk, hts, H116⟩
        refine c_seq ?_
        refine c_seq ?_
        refine c_reg ?_
        refine sy (v := I ((kb : Nat) : Int)) (y_move s8_116) ?_
        refine sy (v := .bool (decide (kb < 70))) (n_lss (a := kb) (b := 70) rfl rfl) ?_
        refine c_nil ?_
        refine n_then ?_
        refine c_if rfl (fun hc117 => ?_) (fun hc117 => ?_)
        · skip
          refine wp_skip ?_
          refine n_then ?_
          refine c_seq ?_
          refine wp_block ?_
          refine c_reg ?_
          refine sy (v := uv) (y_move s7_116) ?_
          refine sy (v := I ((2 : Nat) : Int)) (y_move s6_116) ?_
          refine sy (v := I ((2 + 1 : Nat) : Int)) (n_add (a := 2) (b := 1) rfl rfl (by omega)) ?_
          refine sy (v := B8 (b8 ((2 + 1 : Nat)))) (y_conv_I_8 Tryd.underlying3 Tryd.underlying5 rfl) ?_
          refine st (ow_buildSlice (pv := [(0, B8 (b8 ((2 + 1 : Nat))))]) (us := [B8 (b8 ((2 + 1 : Nat)))]) Tryd.underlying22 sz5 zr5 H116 ⟨⟨rfl, rfl⟩, trivial⟩ (by decide) (fill1 rfl)) ?_
          rintro _ w119 ⟨g118, rfl, H120⟩
          have H121 : St w0 [] [EZ, [(g118, Rw 5 ([B8 (b8 ((2 + 1 : Nat)))]))], EL, G0, G1, [(gl, Rw 22 ([v0, v1, v2]))]] w119 := H120.foc 4 rfl rfl
          refine st (ow_append_ts Tryd.underlying22 sz5 zr5 bt5 rfl hts H121 rfl rfl ((rd_lit (k := 1) (us := [B8 (b8 ((2 + 1 : Nat)))]) H120 0 rfl rfl (by simp [maxLen])).src Tryd.underlying22 (by simp [Value.oneCell'])) (by omega) (by omega)) ?_
          rintro v123 w124 ⟨E122, ho126, H125⟩
          refine sy (v := v123) (y_assign rfl) ?_
          refine c_nil ?_
          refine n_block (n_then ?_)
          refine c_reg ?_
          refine sy (v := I ((kb : Nat) : Int)) (y_move s8_116) ?_
          refine sy (v := I ((kb + 1 : Nat) : Int)) (n_add (a := kb) (b := 1) rfl rfl (by omega)) ?_
          refine sy (v := I ((kb + 1 : Nat) : Int)) (y_assign rfl) ?_
          refine c_nil ?_
          have H127 : St w0 [] [[(gl, Rw 22 ([v0, v1, v2]))], E122, [(g118, Rw 5 ([B8 (b8 ((2 + 1 : Nat)))]))], EL, G0, G1] w124 := H125.foc 5 rfl rfl
          have H128 : St w0 [] [E122, [(gl, Rw 22 ([v0, v1, v2]))], [(g118, Rw 5 ([B8 (b8 ((2 + 1 : Nat)))]))], EL, G0, G1] w124 := H127.foc 1 rfl rfl
          have H129 : St w0 [] [G1, E122, [(gl, Rw 22 ([v0, v1, v2]))], [(g118, Rw 5 ([B8 (b8 ((2 + 1 : Nat)))]))], EL, G0] w124 := H128.foc 5 rfl rfl
          have H130 : St w0 [] [G0, G1, E122, [(gl, Rw 22 ([v0, v1, v2]))], [(g118, Rw 5 ([B8 (b8 ((2 + 1 : Nat)))]))], EL] w124 := H129.foc 5 rfl rfl
          have H131 : St w0 [] [EL, G0, G1, E122, [(gl, Rw 22 ([v0, v1, v2]))], [(g118, Rw 5 ([B8 (b8 ((2 + 1 : Nat)))]))]] w124 := H130.foc 5 rfl rfl
          have H132 : St w0 [] [EL, G0, G1, E122, [(gl, Rw 22 ([v0, v1, v2]))]] w124 := H131.take 5 rfl
          exact lp_next (kb + 1) ⟨v123, E122, s0_116, s5_116, s6_116, rfl, rfl, (by omega), (by rw [← Nat.add_assoc, ← rp_snoc]; exact ho126), H132⟩ (by show _ < _; omega)
        · skip
          obtain rfl : kb = 70 := by omega
          refine wp_exit ?_
          refine x_then (x_then (x_hit (n_then ?_)))
          refine c_reg ?_
          refine sy (v := tv) (y_move s5_116) ?_
          refine sy (v := uv) (y_move s7_116) ?_
          refine st (ow_buildSlice (pv := [(0, uv)]) (us := [uv]) Tryd.underlying38 sz22 zr22 H116 ⟨⟨rfl, rfl⟩, trivial⟩ (by decide) (fill1 (hts.rdu H116 3 rfl).cells)) ?_
          rintro _ w134 ⟨g133, rfl, H135⟩
          have H136 : St w0 [] [EL, [(g133, Rw 22 ([uv]))], G0, G1, EZ, [(gl, Rw 22 ([v0, v1, v2]))]] w134 := H135.foc 1 rfl rfl
          refine st (ow_append Tryd.underlying38 sz22 zr22 bt22 rfl hoM H136 rfl rfl ((rd_lit (k := 1) (us := [uv]) H135 0 rfl rfl (by simp [maxLen])).src Tryd.underlying38 (by intro u hu; simp only [List.mem_cons, List.not_mem_nil, or_false] at hu; subst hu; exact Rd.one (hts.rdu H135 4 rfl))) (by omega) (by omega)) ?_
          rintro v138 w139 ⟨E137, ho141, H140⟩
          refine sy (v := v138) (y_assign rfl) ?_
          refine c_nil ?_
          refine n_block (n_then ?_)
          refine c_reg ?_
          refine sy (v := I ((2 : Nat) : Int)) (y_move s6_116) ?_
          refine sy (v := I ((2 + 1 : Nat) : Int)) (n_add (a := 2) (b := 1) rfl rfl (by omega)) ?_
          refine sy (v := I ((2 + 1 : Nat) : Int)) (y_assign rfl) ?_
          refine c_nil ?_
          have H142 : St w0 [] [[(gl, Rw 22 ([v0, v1, v2]))], E137, [(g133, Rw 22 ([uv]))], G0, G1, EZ] w139 := H140.foc 5 rfl rfl
          have H143 : St w0 [] [EZ, [(gl, Rw 22 ([v0, v1, v2]))], E137, [(g133, Rw 22 ([uv]))], G0, G1] w139 := H142.foc 5 rfl rfl
          have H144 : St w0 [] [G1, EZ, [(gl, Rw 22 ([v0, v1, v2]))], E137, [(g133, Rw 22 ([uv]))], G0] w139 := H143.foc 5 rfl rfl
          have H145 : St w0 [] [G0, G1, EZ, [(gl, Rw 22 ([v0, v1, v2]))], E137, [(g133, Rw 22 ([uv]))]] w139 := H144.foc 5 rfl rfl
          have H146 : St w0 [] [E137, G0, G1, EZ, [(gl, Rw 22 ([v0, v1, v2]))], [(g133, Rw 22 ([uv]))]] w139 := H145.foc 4 rfl rfl
          have H147 : St w0 [] [E137, G0, G1, EZ, [(gl, Rw 22 ([v0, v1, v2]))]] w139 := H146.take 5 rfl
          exact lp_next (2 + 1) ⟨u0, u1, uv, v138, E137, G0, G1, EZ, s0_116, rfl, rfl, (by omega), ho141, hg0, hg1, hts, H147⟩ (by show _ < _; omega)
    · skip
      obtain rfl : ib = 3 := by omega
      have hoN : OS 22 1 tv 3 [u0, u1, u2] EL := hoL
      have hT0 : TS 5 1 v0 l0.length ((List.replicate (l0.length) (b8 ((0 + 1 : Nat) : Int))).map B8) u0 (l0.length + 70) ((List.replicate (l0.length + 70) (b8 ((0 + 1 : Nat) : Int))).map B8) G0 := hg0
      have hT1 : TS 5 1 v1 l1.length ((List.replicate (l1.length) (b8 ((1 + 1 : Nat) : Int))).map B8) u1 (l1.length + 70) ((List.replicate (l1.length + 70) (b8 ((1 + 1 : Nat) : Int))).map B8) G1 := hg1
      have hT2 : TS 5 1 v2 l2.length ((List.replicate (l2.length) (b8 ((2 + 1 : Nat) : Int))).map B8) u2 (l2.length + 70) ((List.replicate (l2.length + 70) (b8 ((2 + 1 : Nat) : Int))).map B8) G2 := hg2
      refine wp_exit ?_
      refine x_then (x_then (x_hit (n_then ?_)))
      refine c_seq ?_
      refine c_seq ?_
      refine c_reg ?_
      refine sy (v := I ((0 : Nat) : Int)) (y_assign (v := I ((0 : Nat) : Int)) rfl) ?_
      refine c_nil ?_
      refine n_then ?_
      refine wp_block ?_
      refine c_loop (fun (ic : Nat) f148 w149 => f148 0 = .slice (some (bs gl)) 3 3 ∧ f148 5 = tv ∧ f148 9 = I ((ic : Nat) : Int) ∧ ic ≤ 3 ∧ St w0 [] [EL, G0, G1, G2, [(gl, Rw 22 ([v0, v1, v2]))]] w149) (fun ic => 3 - ic) 0 ⟨s0_44, s5_44, rfl, (by omega), H44⟩ ?_
      rintro ic f148 w149 ⟨s0_150, s5_150, s9_150, hf0_150, H150⟩
      refine c_seq ?_
      refine c_seq ?_
      refine c_reg ?_
      refine sy (v := I ((ic : Nat) : Int)) (y_move s9_150) ?_
      refine sy (v := .slice (some (bs gl)) 3 3) (y_move s0_150) ?_
      refine sy (v := I ((3 : Nat) : Int)) (y_len Tryd.underlying38 rfl) ?_
      refine sy (v := .bool (decide (ic < 3))) (n_lss (a := ic) (b := 3) rfl rfl) ?_
      refine c_nil ?_
      refine n_then ?_
      refine c_if rfl (fun hc151 => ?_) (fun hc151 => ?_)
      · skip
        obtain rfl | rfl | rfl : ic = 0 ∨ ic = 1 ∨ ic = 2 := by omega
        · skip
          refine wp_skip ?_
          refine n_then ?_
          refine c_seq ?_
          refine wp_block ?_
          refine c_seq ?_
          refine c_reg ?_
          refine sy (v := I ((0 : Nat) : Int)) (y_assign (v := I ((0 : Nat) : Int)) rfl) ?_
          refine c_nil ?_
          refine n_then ?_
          refine wp_block ?_
          refine c_loop (fun (kc : Nat) f152 w153 => f152 0 = .slice (some (bs gl)) 3 3 ∧ f152 5 = tv ∧ f152 9 = I ((0 : Nat) : Int) ∧ f152 10 = I ((kc : Nat) : Int) ∧ kc ≤ l0.length + 70 ∧ St w0 [] [EL, G0, G1, G2, [(gl, Rw 22 ([v0, v1, v2]))]] w153) (fun kc => l0.length + 70 - kc) 0 ⟨s0_150, s5_150, s9_150, rfl, (by omega), H150⟩ ?_
          rintro kc f152 w153 ⟨s0_154, s5_154, s9_154, s10_154, hf0_154, H154⟩
          have hr1 : (List.replicate (l0.length) (b8 ((0 + 1 : Nat) : Int))).length = l0.length := List.length_replicate
          have hr2 : (List.replicate (l0.length + 70) (b8 ((0 + 1 : Nat) : Int))).length = l0.length + 70 := List.length_replicate
          refine c_seq ?_
          refine c_seq ?_
          refine c_reg ?_
          refine sy (v := I ((kc : Nat) : Int)) (y_move s10_154) ?_
          refine sy (v := tv) (y_move s5_154) ?_
          refine sy (v := I ((0 : Nat) : Int)) (y_move s9_154) ?_
          refine sy (v := Ad (sp (tv)) (0 * 1)) (y_ixR (m := 0) Tryd.underlying38 sz22 (hoN.rd H154 0 rfl) (by decide) rfl rfl rfl (by omega)) ?_
          refine sy (v := u0) (y_load sc22 rfl ((hoN.rd H154 0 rfl).cell _ _ rfl)) ?_
          refine sy (v := I ((l0.length + 70 : Nat) : Int)) (y_lenR Tryd.underlying22 (hT0.rdu H154 1 rfl) rfl) ?_
          refine sy (v := .bool (decide (kc < (l0.length + 70)))) (n_lss (a := kc) (b := l0.length + 70) rfl rfl) ?_
          refine c_nil ?_
          refine n_then ?_
          refine c_if rfl (fun hc155 => ?_) (fun hc155 => ?_)
          · skip
            refine wp_skip ?_
            refine n_then ?_
            refine c_seq ?_
            refine wp_block ?_
            refine c_seq ?_
            refine c_reg ?_
            refine sy (v := tv) (y_move s5_154) ?_
            refine sy (v := I ((0 : Nat) : Int)) (y_move s9_154) ?_
            refine sy (v := Ad (sp (tv)) (0 * 1)) (y_ixR (m := 0) Tryd.underlying38 sz22 (hoN.rd H154 0 rfl) (by decide) rfl rfl rfl (by omega)) ?_
            refine sy (v := u0) (y_load sc22 rfl ((hoN.rd H154 0 rfl).cell _ _ rfl)) ?_
            refine sy (v := I ((kc : Nat) : Int)) (y_move s10_154) ?_
            refine sy (v := Ad (sp (u0)) (kc * 1)) (y_ixR (m := kc) Tryd.underlying22 sz5 (hT0.rdu H154 1 rfl) (by decide) rfl rfl rfl (by omega)) ?_
            refine sy (v := B8 ((List.replicate (l0.length + 70) (b8 ((0 + 1 : Nat) : Int))).getD kc 0)) (y_load sc5 rfl ((hT0.rdu H154 1 rfl).cell _ _ (by rw [Nat.mul_one]; exact map_get B8 (l := List.replicate (l0.length + 70) (b8 ((0 + 1 : Nat) : Int))) (k := kc) 0 (by omega)))) ?_
            refine sy (v := I ((0 : Nat) : Int)) (y_move s9_154) ?_
            refine sy (v := I ((0 + 1 : Nat) : Int)) (n_add (a := 0) (b := 1) rfl rfl (by omega)) ?_
            refine sy (v := B8 (b8 ((0 + 1 : Nat)))) (y_conv_I_8 Tryd.underlying3 Tryd.underlying5 rfl) ?_
            refine sy (v := .bool (decide (((List.replicate (l0.length + 70) (b8 ((0 + 1 : Nat) : Int))).getD kc 0) ≠ (b8 ((0 + 1 : Nat)))))) (y_neq8 (a := (List.replicate (l0.length + 70) (b8 ((0 + 1 : Nat) : Int))).getD kc 0) (b := b8 ((0 + 1 : Nat))) rfl rfl) ?_
            refine sy (v := .bool (decide (((List.replicate (l0.length + 70) (b8 ((0 + 1 : Nat) : Int))).getD kc 0) ≠ (b8 ((0 + 1 : Nat)))))) (y_move rfl) ?_
            have hq156 : ¬ (((List.replicate (l0.length + 70) (b8 ((0 + 1 : Nat) : Int))).getD kc 0) ≠ (b8 ((0 + 1 : Nat)))) := (fun hne => hne (rp_get (by omega)))
            refine gsy (v := I ((kc : Nat) : Int)) (gv_of (t := 86) rfl rfl rfl) (decide_eq_false hq156) (y_move s10_154) ?_
            refine gsy (v := .slice (some (bs gl)) 3 3) (gv_of (t := 86) rfl rfl rfl) (decide_eq_false hq156) (y_move s0_154) ?_
            refine gsy (v := I ((0 : Nat) : Int)) (gv_of (t := 86) rfl rfl rfl) (decide_eq_false hq156) (y_move s9_154) ?_
            refine gsy (v := Ad (bs gl) (0 * 1)) (gv_of (t := 86) rfl rfl rfl) (decide_eq_false hq156) (y_ixS (m := 0) Tryd.underlying38 sz22 rfl rfl rfl (by omega)) ?_
            refine gsy (v := v0) (gv_of (t := 86) rfl rfl rfl) (decide_eq_false hq156) (y_load sc22 rfl (H154.cell 4 rfl rfl)) ?_
            refine gsy (v := I ((l0.length : Nat) : Int)) (gv_of (t := 86) rfl rfl rfl) (decide_eq_false hq156) (y_lenR Tryd.underlying22 (hT0.rdx H154 1 rfl) rfl) ?_
            refine gsy (v := .bool (decide (kc < l0.length))) (gv_of (t := 86) rfl rfl rfl) (decide_eq_false hq156) (n_lss (a := kc) (b := l0.length) rfl rfl) ?_
            refine gsy (v := .bool (decide (kc < l0.length))) (gv_of (t := 86) rfl rfl rfl) (decide_eq_false hq156) (y_move rfl) ?_
            by_cases hp157 : kc < l0.length
            · skip
              refine gsy (v := .slice (some (bs gl)) 3 3) (gv_of (t := 94) rfl rfl rfl) (decide_eq_true hp157) (y_move s0_154) ?_
              refine gsy (v := I ((0 : Nat) : Int)) (gv_of (t := 94) rfl rfl rfl) (decide_eq_true hp157) (y_move s9_154) ?_
              refine gsy (v := Ad (bs gl) (0 * 1)) (gv_of (t := 94) rfl rfl rfl) (decide_eq_true hp157) (y_ixS (m := 0) Tryd.underlying38 sz22 rfl rfl rfl (by omega)) ?_
              refine gsy (v := v0) (gv_of (t := 94) rfl rfl rfl) (decide_eq_true hp157) (y_load sc22 rfl (H154.cell 4 rfl rfl)) ?_
              refine gsy (v := I ((kc : Nat) : Int)) (gv_of (t := 94) rfl rfl rfl) (decide_eq_true hp157) (y_move s10_154) ?_
              refine gsy (v := Ad (sp (v0)) (kc * 1)) (gv_of (t := 94) rfl rfl rfl) (decide_eq_true hp157) (y_ixR (m := kc) Tryd.underlying22 sz5 (hT0.rdx H154 1 rfl) (by decide) rfl rfl rfl (by omega)) ?_
              refine gsy (v := B8 ((List.replicate (l0.length) (b8 ((0 + 1 : Nat) : Int))).getD kc 0)) (gv_of (t := 94) rfl rfl rfl) (decide_eq_true hp157) (y_load sc5 rfl ((hT0.rdx H154 1 rfl).cell _ _ (by rw [Nat.mul_one]; exact map_get B8 (l := List.replicate (l0.length) (b8 ((0 + 1 : Nat) : Int))) (k := kc) 0 (by omega)))) ?_
              refine gsy (v := I ((0 : Nat) : Int)) (gv_of (t := 94) rfl rfl rfl) (decide_eq_true hp157) (y_move s9_154) ?_
              refine gsy (v := I ((0 + 1 : Nat) : Int)) (gv_of (t := 94) rfl rfl rfl) (decide_eq_true hp157) (n_add (a := 0) (b := 1) rfl rfl (by omega)) ?_
              refine gsy (v := B8 (b8 ((0 + 1 : Nat)))) (gv_of (t := 94) rfl rfl rfl) (decide_eq_true hp157) (y_conv_I_8 Tryd.underlying3 Tryd.underlying5 rfl) ?_
              refine gsy (v := .bool (decide (((List.replicate (l0.length) (b8 ((0 + 1 : Nat) : Int))).getD kc 0) ≠ (b8 ((0 + 1 : Nat)))))) (gv_of (t := 94) rfl rfl rfl) (decide_eq_true hp157) (y_neq8 (a := (List.replicate (l0.length) (b8 ((0 + 1 : Nat) : Int))).getD kc 0) (b := b8 ((0 + 1 : Nat))) rfl rfl) ?_
              refine gsy (v := .bool (decide (((List.replicate (l0.length) (b8 ((0 + 1 : Nat) : Int))).getD kc 0) ≠ (b8 ((0 + 1 : Nat)))))) (gv_of (t := 86) rfl rfl rfl) (decide_eq_false hq156) (y_pickT rfl (decide_eq_true hp157) rfl) ?_
              refine sy (v := .bool (decide (((List.replicate (l0.length) (b8 ((0 + 1 : Nat) : Int))).getD kc 0) ≠ (b8 ((0 + 1 : Nat)))))) (y_pickF rfl (decide_eq_false hq156) rfl) ?_
              refine c_nil ?_
              refine n_then ?_
              have hq158 : ¬ (((List.replicate (l0.length) (b8 ((0 + 1 : Nat) : Int))).getD kc 0) ≠ (b8 ((0 + 1 : Nat)))) := (fun hne => hne (rp_get (by omega)))
              refine c_f rfl (decide_eq_false hq158) ?_
              refine wp_skip ?_
              refine n_block (n_then ?_)
              refine c_reg ?_
              refine sy (v := I ((kc : Nat) : Int)) (y_move s10_154) ?_
              refine sy (v := I ((kc + 1 : Nat) : Int)) (n_add (a := kc) (b := 1) rfl rfl (by omega)) ?_
              refine sy (v := I ((kc + 1 : Nat) : Int)) (y_assign rfl) ?_
              refine c_nil ?_
              exact lp_next (kc + 1) ⟨s0_154, s5_154, s9_154, rfl, (by omega), H154⟩ (by show _ < _; omega)
            · skip
              refine gno (gv_of (t := 94) rfl rfl rfl) (decide_eq_false hp157) ?_
              refine gno (gv_of (t := 94) rfl rfl rfl) (decide_eq_false hp157) ?_
              refine gno (gv_of (t := 94) rfl rfl rfl) (decide_eq_false hp157) ?_
              refine gno (gv_of (t := 94) rfl rfl rfl) (decide_eq_false hp157) ?_
              refine gno (gv_of (t := 94) rfl rfl rfl) (decide_eq_false hp157) ?_
              refine gno (gv_of (t := 94) rfl rfl rfl) (decide_eq_false hp157) ?_
              refine gno (gv_of (t := 94) rfl rfl rfl) (decide_eq_false hp157) ?_
              refine gno (gv_of (t := 94) rfl rfl rfl) (decide_eq_false hp157) ?_
              refine gno (gv_of (t := 94) rfl rfl rfl) (decide_eq_false hp157) ?_
              refine gno (gv_of (t := 94) rfl rfl rfl) (decide_eq_false hp157) ?_
              refine gno (gv_of (t := 94) rfl rfl rfl) (decide_eq_false hp157) ?_
              refine gsy (v := .bool (false)) (gv_of (t := 86) rfl rfl rfl) (decide_eq_false hq156) (y_pickF (v := .bool (false)) rfl (decide_eq_false hp157) rfl) ?_
              refine sy (v := .bool (false)) (y_pickF rfl (decide_eq_false hq156) rfl) ?_
              refine c_nil ?_
              refine n_then ?_
              refine c_f rfl rfl ?_
              refine wp_skip ?_
              refine n_block (n_then ?_)
              refine c_reg ?_
              refine sy (v := I ((kc : Nat) : Int)) (y_move s10_154) ?_
              refine sy (v := I ((kc + 1 : Nat) : Int)) (n_add (a := kc) (b := 1) rfl rfl (by omega)) ?_
              refine sy (v := I ((kc + 1 : Nat) : Int)) (y_assign rfl) ?_
              refine c_nil ?_
              exact lp_next (kc + 1) ⟨s0_154, s5_154, s9_154, rfl, (by omega), H154⟩ (by show _ < _; omega)
          · skip
            refine wp_exit ?_
            refine x_then (x_then (x_hit (n_block (n_then ?_))))
            refine c_reg ?_
            refine sy (v := I ((0 : Nat) : Int)) (y_move s9_154) ?_
            refine sy (v := I ((0 + 1 : Nat) : Int)) (n_add (a := 0) (b := 1) rfl rfl (by omega)) ?_
            refine sy (v := I ((0 + 1 : Nat) : Int)) (y_assign rfl) ?_
            refine c_nil ?_
            exact lp_next (0 + 1) ⟨s0_154, s5_154, rfl, (by omega), H154⟩ (by show _ < _; omega)
        · skip
          refine wp_skip ?_
          refine n_then ?_
          refine c_seq ?_
          refine wp_block ?_
          refine c_seq ?_
          refine c_reg ?_
          refine sy (v := I ((0 : Nat) : Int)) (y_assign (v := I ((0 : Nat) : Int)) rfl) ?_
          refine c_nil ?_
          refine n_then ?_
          refine wp_block ?_
          refine c_loop (fun (kc : Nat) f159 w160 => f159 0 = .slice (some (bs gl)) 3 3 ∧ f159 5 = tv ∧ f159 9 = I ((1 : Nat) : Int) ∧ f159 10 = I ((kc : Nat) : Int) ∧ kc ≤ l1.length + 70 ∧ St w0 [] [EL, G0, G1, G2, [(gl, Rw 22 ([v0, v1, v2]))]] w160) (fun kc => l1.length + 70 - kc) 0 ⟨s0_150, s5_150, s9_150, rfl, (by omega), H150⟩ ?_
          rintro kc f159 w160 ⟨s0_161, s5_161, s9_161, s10_161, hf0_161, H161⟩
          have hr1 : (List.replicate (l1.length) (b8 ((1 + 1 : Nat) : Int))).length = l1.length := List.length_replicate
          have hr2 : (List.replicate (l1.length + 70) (b8 ((1 + 1 : Nat) : Int))).length = l1.length + 70 := List.length_replicate
          refine c_seq ?_
          refine c_seq ?_
          refine c_reg ?_
          refine sy (v := I ((kc : Nat) : Int)) (y_move s10_161) ?_
          refine sy (v := tv) (y_move s5_161) ?_
          refine sy (v := I ((1 : Nat) : Int)) (y_move s9_161) ?_
          refine sy (v := Ad (sp (tv)) (1 * 1)) (y_ixR (m := 1) Tryd.underlying38 sz22 (hoN.rd H161 0 rfl) (by decide) rfl rfl rfl (by omega)) ?_
          refine sy (v := u1) (y_load sc22 rfl ((hoN.rd H161 0 rfl).cell _ _ rfl)) ?_
          refine sy (v := I ((l1.length + 70 : Nat) : Int)) (y_lenR Tryd.underlying22 (hT1.rdu H161 2 rfl) rfl) ?_
          refine sy (v := .bool (decide (kc < (l1.length + 70)))) (n_lss (a := kc) (b := l1.length + 70) rfl rfl) ?_
          refine c_nil ?_
          refine n_then ?_
          refine c_if rfl (fun hc162 => ?_) (fun hc162 => ?_)
          · skip
            refine wp_skip ?_
            refine n_then ?_
            refine c_seq ?_
            refine wp_block ?_
            refine c_seq ?_
            refine c_reg ?_
            refine sy (v := tv) (y_move s5_161) ?_
            refine sy (v := I ((1 : Nat) : Int)) (y_move s9_161) ?_
            refine sy (v := Ad (sp (tv)) (1 * 1)) (y_ixR (m := 1) Tryd.underlying38 sz22 (hoN.rd H161 0 rfl) (by decide) rfl rfl rfl (by omega)) ?_
            refine sy (v := u1) (y_load sc22 rfl ((hoN.rd H161 0 rfl).cell _ _ rfl)) ?_
            refine sy (v := I ((kc : Nat) : Int)) (y_move s10_161) ?_
            refine sy (v := Ad (sp (u1)) (kc * 1)) (y_ixR (m := kc) Tryd.underlying22 sz5 (hT1.rdu H161 2 rfl) (by decide) rfl rfl rfl (by omega)) ?_
            refine sy (v := B8 ((List.replicate (l1.length + 70) (b8 ((1 + 1 : Nat) : Int))).getD kc 0)) (y_load sc5 rfl ((hT1.rdu H161 2 rfl).cell _ _ (by rw [Nat.mul_one]; exact map_get B8 (l := List.replicate (l1.length + 70) (b8 ((1 + 1 : Nat) : Int))) (k := kc) 0 (by omega)))) ?_
            refine sy (v := I ((1 : Nat) : Int)) (y_move s9_161) ?_
            refine sy (v := I ((1 + 1 : Nat) : Int)) (n_add (a := 1) (b := 1) rfl rfl (by omega)) ?_
            refine sy (v := B8 (b8 ((1 + 1 : Nat)))) (y_conv_I_8 Tryd.underlying3 Tryd.underlying5 rfl) ?_
            refine sy (v := .bool (decide (((List.replicate (l1.length + 70) (b8 ((1 + 1 : Nat) : Int))).getD kc 0) ≠ (b8 ((1 + 1 : Nat)))))) (y_neq8 (a := (List.replicate (l1.length + 70) (b8 ((1 + 1 : Nat) : Int))).getD kc 0) (b := b8 ((1 + 1 : Nat))) rfl rfl) ?_
            refine sy (v := .bool (decide (((List.replicate (l1.length + 70) (b8 ((1 + 1 : Nat) : Int))).getD kc 0) ≠ (b8 ((1 + 1 : Nat)))))) (y_move rfl) ?_
            have hq163 : ¬ (((List.replicate (l1.length + 70) (b8 ((1 + 1 : Nat) : Int))).getD kc 0) ≠ (b8 ((1 + 1 : Nat)))) := (fun hne => hne (rp_get (by omega)))
            refine gsy (v := I ((kc : Nat) : Int)) (gv_of (t := 86) rfl rfl rfl) (decide_eq_false hq163) (y_move s10_161) ?_
            refine gsy (v := .slice (some (bs gl)) 3 3) (gv_of (t := 86) rfl rfl rfl) (decide_eq_false hq163) (y_move s0_161) ?_
            refine gsy (v := I ((1 : Nat) : Int)) (gv_of (t := 86) rfl rfl rfl) (decide_eq_false hq163) (y_move s9_161) ?_
            refine gsy (v := Ad (bs gl) (1 * 1)) (gv_of (t := 86) rfl rfl rfl) (decide_eq_false hq163) (y_ixS (m := 1) Tryd.underlying38 sz22 rfl rfl rfl (by omega)) ?_
            refine gsy (v := v1) (gv_of (t := 86) rfl rfl rfl) (decide_eq_false hq163) (y_load sc22 rfl (H161.cell 4 rfl rfl)) ?_
            refine gsy (v := I ((l1.length : Nat) : Int)) (gv_of (t := 86) rfl rfl rfl) (decide_eq_false hq163) (y_lenR Tryd.underlying22 (hT1.rdx H161 2 rfl) rfl) ?_
            refine gsy (v := .bool (decide (kc < l1.length))) (gv_of (t := 86) rfl rfl rfl) (decide_eq_false hq163) (n_lss (a := kc) (b := l1.length) rfl rfl) ?_
            refine gsy (v := .bool (decide (kc < l1.length))) (gv_of (t := 86) rfl rfl rfl) (decide_eq_false hq163) (y_move rfl) ?_
            by_cases hp164 : kc < l1.length
            · skip
              refine gsy (v := .slice (some (bs gl)) 3 3) (gv_of (t := 94) rfl rfl rfl) (decide_eq_true hp164) (y_move s0_161) ?_
              refine gsy (v := I ((1 : Nat) : Int)) (gv_of (t := 94) rfl rfl rfl) (decide_eq_true hp164) (y_move s9_161) ?_
              refine gsy (v := Ad (bs gl) (1 * 1)) (gv_of (t := 94) rfl rfl rfl) (decide_eq_true hp164) (y_ixS (m := 1) Tryd.underlying38 sz22 rfl rfl rfl (by omega)) ?_
              refine gsy (v := v1) (gv_of (t := 94) rfl rfl rfl) (decide_eq_true hp164) (y_load sc22 rfl (H161.cell 4 rfl rfl)) ?_
              refine gsy (v := I ((kc : Nat) : Int)) (gv_of (t := 94) rfl rfl rfl) (decide_eq_true hp164) (y_move s10_161) ?_
              refine gsy (v := Ad (sp (v1)) (kc * 1)) (gv_of (t := 94) rfl rfl rfl) (decide_eq_true hp164) (y_ixR (m := kc) Tryd.underlying22 sz5 (hT1.rdx H161 2 rfl) (by decide) rfl rfl rfl (by omega)) ?_
              refine gsy (v := B8 ((List.replicate (l1.length) (b8 ((1 + 1 : Nat) : Int))).getD kc 0)) (gv_of (t := 94) rfl rfl rfl) (decide_eq_true hp164) (y_load sc5 rfl ((hT1.rdx H161 2 rfl).cell _ _ (by rw [Nat.mul_one]; exact map_get B8 (l := List.replicate (l1.length) (b8 ((1 + 1 : Nat) : Int))) (k := kc) 0 (by omega)))) ?_
              refine gsy (v := I ((1 : Nat) : Int)) (gv_of (t := 94) rfl rfl rfl) (decide_eq_true hp164) (y_move s9_161) ?_
              refine gsy (v := I ((1 + 1 : Nat) : Int)) (gv_of (t := 94) rfl rfl rfl) (decide_eq_true hp164) (n_add (a := 1) (b := 1) rfl rfl (by omega)) ?_
              refine gsy (v := B8 (b8 ((1 + 1 : Nat)))) (gv_of (t := 94) rfl rfl rfl) (decide_eq_true hp164) (y_conv_I_8 Tryd.underlying3 Tryd.underlying5 rfl) ?_
              refine gsy (v := .bool (decide (((List.replicate (l1.length) (b8 ((1 + 1 : Nat) : Int))).getD kc 0) ≠ (b8 ((1 + 1 : Nat)))))) (gv_of (t := 94) rfl rfl rfl) (decide_eq_true hp164) (y_neq8 (a := (List.replicate (l1.length) (b8 ((1 + 1 : Nat) : Int))).getD kc 0) (b := b8 ((1 + 1 : Nat))) rfl rfl) ?_
              refine gsy (v := .bool (decide (((List.replicate (l1.length) (b8 ((1 + 1 : Nat) : Int))).getD kc 0) ≠ (b8 ((1 + 1 : Nat)))))) (gv_of (t := 86) rfl rfl rfl) (decide_eq_false hq163) (y_pickT rfl (decide_eq_true hp164) rfl) ?_
              refine sy (v := .bool (decide (((List.replicate (l1.length) (b8 ((1 + 1 : Nat) : Int))).getD kc 0) ≠ (b8 ((1 + 1 : Nat)))))) (y_pickF rfl (decide_eq_false hq163) rfl) ?_
              refine c_nil ?_
              refine n_then ?_
              have hq165 : ¬ (((List.replicate (l1.length) (b8 ((1 + 1 : Nat) : Int))).getD kc 0) ≠ (b8 ((1 + 1 : Nat)))) := (fun hne => hne (rp_get (by omega)))
              refine c_f rfl (decide_eq_false hq165) ?_
              refine wp_skip ?_
              refine n_block (n_then ?_)
              refine c_reg ?_
              refine sy (v := I ((kc : Nat) : Int)) (y_move s10_161) ?_
              refine sy (v := I ((kc + 1 : Nat) : Int)) (n_add (a := kc) (b := 1) rfl rfl (by omega)) ?_
              refine sy (v := I ((kc + 1 : Nat) : Int)) (y_assign rfl) ?_
              refine c_nil ?_
              exact lp_next (kc + 1) ⟨s0_161, s5_161, s9_161, rfl, (by omega), H161⟩ (by show _ < _; omega)
            · skip
              refine gno (gv_of (t := 94) rfl rfl rfl) (decide_eq_false hp164) ?_
              refine gno (gv_of (t := 94) rfl rfl rfl) (decide_eq_false hp164) ?_
              refine gno (gv_of (t := 94) rfl rfl rfl) (decide_eq_false hp164) ?_
              refine gno (gv_of (t := 94) rfl rfl rfl) (decide_eq_false hp164) ?_
              refine gno (gv_of (t := 94) rfl rfl rfl) (decide_eq_false hp164) ?_
              refine gno (gv_of (t := 94) rfl rfl rfl) (decide_eq_false hp164) ?_
              refine gno (gv_of (t := 94) rfl rfl rfl) (decide_eq_false hp164) ?_
              refine gno (gv_of (t := 94) rfl rfl rfl) (decide_eq_false hp164) ?_
              refine gno (gv_of (t := 94) rfl rfl rfl) (decide_eq_false hp164) ?_
              refine gno (gv_of (t := 94) rfl rfl rfl) (decide_eq_false hp164) ?_
              refine gno (gv_of (t := 94) rfl rfl rfl) (decide_eq_false hp164) ?_
              refine gsy (v := .bool (false)) (gv_of (t := 86) rfl rfl rfl) (decide_eq_false hq163) (y_pickF (v := .bool (false)) rfl (decide_eq_false hp164) rfl) ?_
              refine sy (v := .bool (false)) (y_pickF rfl (decide_eq_false hq163) rfl) ?_
              refine c_nil ?_
              refine n_then ?_
              refine c_f rfl rfl ?_
              refine wp_skip ?_
              refine n_block (n_then ?_)
              refine c_reg ?_
              refine sy (v := I ((kc : Nat) : Int)) (y_move s10_161) ?_
              refine sy (v := I ((kc + 1 : Nat) : Int)) (n_add (a := kc) (b := 1) rfl rfl (by omega)) ?_
              refine sy (v := I ((kc + 1 : Nat) : Int)) (y_assign rfl) ?_
              refine c_nil ?_
              exact lp_next (kc + 1) ⟨s0_161, s5_161, s9_161, rfl, (by omega), H161⟩ (by show _ < _; omega)
          · skip
            refine wp_exit ?_
            refine x_then (x_then (x_hit (n_block (n_then ?_))))
            refine c_reg ?_
            refine sy (v := I ((1 : Nat) : Int)) (y_move s9_161) ?_
            refine sy (v := I ((1 + 1 : Nat) : Int)) (n_add (a := 1) (b := 1) rfl rfl (by omega)) ?_
            refine sy (v := I ((1 + 1 : Nat) : Int)) (y_assign rfl) ?_
            refine c_nil ?_
            exact lp_next (1 + 1) ⟨s0_161, s5_161, rfl, (by omega), H161⟩ (by show _ < _; omega)
        · skip
          refine wp_skip ?_
          refine n_then ?_
          refine c_seq ?_
          refine wp_block ?_
          refine c_seq ?_
          refine c_reg ?_
          refine sy (v := I ((0 : Nat) : Int)) (y_assign (v := I ((0 : Nat) : Int)) rfl) ?_
          refine c_nil ?_
          refine n_then ?_
          refine wp_block ?_
          refine c_loop (fun (kc : Nat) f166 w167 => f166 0 = .slice (some (bs gl)) 3 3 ∧ f166 5 = tv ∧ f166 9 = I ((2 : Nat) : Int) ∧ f166 10 = I ((kc : Nat) : Int) ∧ kc ≤ l2.length + 70 ∧ St w0 [] [EL, G0, G1, G2, [(gl, Rw 22 ([v0, v1, v2]))]] w167) (fun kc => l2.length + 70 - kc) 0 ⟨s0_150, s5_150, s9_150, rfl, (by omega), H150⟩ ?_
          rintro kc f166 w167 ⟨s0_168, s5_168, s9_168, s10_168, hf0_168, H168⟩
          have hr1 : (List.replicate (l2.length) (b8 ((2 + 1 : Nat) : Int))).length = l2.length := List.length_replicate
          have hr2 : (List.replicate (l2.length + 70) (b8 ((2 + 1 : Nat) : Int))).length = l2.length + 70 := List.length_replicate
          refine c_seq ?_
          refine c_seq ?_
          refine c_reg ?_
          refine sy (v := I ((kc : Nat) : Int)) (y_move s10_168) ?_
          refine sy (v := tv) (y_move s5_168) ?_
          refine sy (v := I ((2 : Nat) : Int)) (y_move s9_168) ?_
          refine sy (v := Ad (sp (tv)) (2 * 1)) (y_ixR (m := 2) Tryd.underlying38 sz22 (hoN.rd H168 0 rfl) (by decide) rfl rfl rfl (by omega)) ?_
          refine sy (v := u2) (y_load sc22 rfl ((hoN.rd H168 0 rfl).cell _ _ rfl)) ?_
          refine sy (v := I ((l2.length + 70 : Nat) : Int)) (y_lenR Tryd.underlying22 (hT2.rdu H168 3 rfl) rfl) ?_
          refine sy (v := .bool (decide (kc < (l2.length + 70)))) (n_lss (a := kc) (b := l2.length + 70) rfl rfl) ?_
          refine c_nil ?_
          refine n_then ?_
          refine c_if rfl (fun hc169 => ?_) (fun hc169 => ?_)
          · skip
            refine wp_skip ?_
            refine n_then ?_
            refine c_seq ?_
            refine wp_block ?_
            refine c_seq ?_
            refine c_reg ?_
            refine sy (v := tv) (y_move s5_168) ?_
            refine sy (v := I ((2 : Nat) : Int)) (y_move s9_168) ?_
            refine sy (v := Ad (sp (tv)) (2 * 1)) (y_ixR (m := 2) Tryd.underlying38 sz22 (hoN.rd H168 0 rfl) (by decide) rfl rfl rfl (by omega)) ?_
            refine sy (v := u2) (y_load sc22 rfl ((hoN.rd H168 0 rfl).cell _ _ rfl)) ?_
            refine sy (v := I ((kc : Nat) : Int)) (y_move s10_168) ?_
            refine sy (v := Ad (sp (u2)) (kc * 1)) (y_ixR (m := kc) Tryd.underlying22 sz5 (hT2.rdu H168 3 rfl) (by decide) rfl rfl rfl (by omega)) ?_
            refine sy (v := B8 ((List.replicate (l2.length + 70) (b8 ((2 + 1 : Nat) : Int))).getD kc 0)) (y_load sc5 rfl ((hT2.rdu H168 3 rfl).cell _ _ (by rw [Nat.mul_one]; exact map_get B8 (l := List.replicate (l2.length + 70) (b8 ((2 + 1 : Nat) : Int))) (k := kc) 0 (by omega)))) ?_
            refine sy (v := I ((2 : Nat) : Int)) (y_move s9_168) ?_
            refine sy (v := I ((2 + 1 : Nat) : Int)) (n_add (a := 2) (b := 1) rfl rfl (by omega)) ?_
            refine sy (v := B8 (b8 ((2 + 1 : Nat)))) (y_conv_I_8 Tryd.underlying3 Tryd.underlying5 rfl) ?_
            refine sy (v := .bool (decide (((List.replicate (l2.length + 70) (b8 ((2 + 1 : Nat) : Int))).getD kc 0) ≠ (b8 ((2 + 1 : Nat)))))) (y_neq8 (a := (List.replicate (l2.length + 70) (b8 ((2 + 1 : Nat) : Int))).getD kc 0) (b := b8 ((2 + 1 : Nat))) rfl rfl) ?_
            refine sy (v := .bool (decide (((List.replicate (l2.length + 70) (b8 ((2 + 1 : Nat) : Int))).getD kc 0) ≠ (b8 ((2 + 1 : Nat)))))) (y_move rfl) ?_
            have hq170 : ¬ (((List.replicate (l2.length + 70) (b8 ((2 + 1 : Nat) : Int))).getD kc 0) ≠ (b8 ((2 + 1 : Nat)))) := (fun hne => hne (rp_get (by omega)))
            refine gsy (v := I ((kc : Nat) : Int)) (gv_of (t := 86) rfl rfl rfl) (decide_eq_false hq170) (y_move s10_168) ?_
            refine gsy (v := .slice (some (bs gl)) 3 3) (gv_of (t := 86) rfl rfl rfl) (decide_eq_false hq170) (y_move s0_168) ?_
            refine gsy (v := I ((2 : Nat) : Int)) (gv_of (t := 86) rfl rfl rfl) (decide_eq_false hq170) (y_move s9_168) ?_
            refine gsy (v := Ad (bs gl) (2 * 1)) (gv_of (t := 86) rfl rfl rfl) (decide_eq_false hq170) (y_ixS (m := 2) Tryd.underlying38 sz22 rfl rfl rfl (by omega)) ?_
            refine gsy (v := v2) (gv_of (t := 86) rfl rfl rfl) (decide_eq_false hq170) (y_load sc22 rfl (H168.cell 4 rfl rfl)) ?_
            refine gsy (v := I ((l2.length : Nat) : Int)) (gv_of (t := 86) rfl rfl rfl) (decide_eq_false hq170) (y_lenR Tryd.underlying22 (hT2.rdx H168 3 rfl) rfl) ?_
            refine gsy (v := .bool (decide (kc < l2.length))) (gv_of (t := 86) rfl rfl rfl) (decide_eq_false hq170) (n_lss (a := kc) (b := l2.length) rfl rfl) ?_
            refine gsy (v := .bool (decide (kc < l2.length))) (gv_of (t := 86) rfl rfl rfl) (decide_eq_false hq170) (y_move rfl) ?_
            by_cases hp171 : kc < l2.length
            · skip
              refine gsy (v := .slice (some (bs gl)) 3 3) (gv_of (t := 94) rfl rfl rfl) (decide_eq_true hp171) (y_move s0_168) ?_
              refine gsy (v := I ((2 : Nat) : Int)) (gv_of (t := 94) rfl rfl rfl) (decide_eq_true hp171) (y_move s9_168) ?_
              refine gsy (v := Ad (bs gl) (2 * 1)) (gv_of (t := 94) rfl rfl rfl) (decide_eq_true hp171) (y_ixS (m := 2) Tryd.underlying38 sz22 rfl rfl rfl (by omega)) ?_
              refine gsy (v := v2) (gv_of (t := 94) rfl rfl rfl) (decide_eq_true hp171) (y_load sc22 rfl (H168.cell 4 rfl rfl)) ?_
              refine gsy (v := I ((kc : Nat) : Int)) (gv_of (t := 94) rfl rfl rfl) (decide_eq_true hp171) (y_move s10_168) ?_
              refine gsy (v := Ad (sp (v2)) (kc * 1)) (gv_of (t := 94) rfl rfl rfl) (decide_eq_true hp171) (y_ixR (m := kc) Tryd.underlying22 sz5 (hT2.rdx H168 3 rfl) (by decide) rfl rfl rfl (by omega)) ?_
              refine gsy (v := B8 ((List.replicate (l2.length) (b8 ((2 + 1 : Nat) : Int))).getD kc 0)) (gv_of (t := 94) rfl rfl rfl) (decide_eq_true hp171) (y_load sc5 rfl ((hT2.rdx H168 3 rfl).cell _ _ (by rw [Nat.mul_one]; exact map_get B8 (l := List.replicate (l2.length) (b8 ((2 + 1 : Nat) : Int))) (k := kc) 0 (by omega)))) ?_
              refine gsy (v := I ((2 : Nat) : Int)) (gv_of (t := 94) rfl rfl rfl) (decide_eq_true hp171) (y_move s9_168) ?_
              refine gsy (v := I ((2 + 1 : Nat) : Int)) (gv_of (t := 94) rfl rfl rfl) (decide_eq_true hp171) (n_add (a := 2) (b := 1) rfl rfl (by omega)) ?_
              refine gsy (v := B8 (b8 ((2 + 1 : Nat)))) (gv_of (t := 94) rfl rfl rfl) (decide_eq_true hp171) (y_conv_I_8 Tryd.underlying3 Tryd.underlying5 rfl) ?_
              refine gsy (v := .bool (decide (((List.replicate (l2.length) (b8 ((2 + 1 : Nat) : Int))).getD kc 0) ≠ (b8 ((2 + 1 : Nat)))))) (gv_of (t := 94) rfl rfl rfl) (decide_eq_true hp171) (y_neq8 (a := (List.replicate (l2.length) (b8 ((2 + 1 : Nat) : Int))).getD kc 0) (b := b8 ((2 + 1 : Nat))) rfl rfl) ?_
              refine gsy (v := .bool (decide (((List.replicate (l2.length) (b8 ((2 + 1 : Nat) : Int))).getD kc 0) ≠ (b8 ((2 + 1 : Nat)))))) (gv_of (t := 86) rfl rfl rfl) (decide_eq_false hq170) (y_pickT rfl (decide_eq_true hp171) rfl) ?_
              refine sy (v := .bool (decide (((List.replicate (l2.length) (b8 ((2 + 1 : Nat) : Int))).getD kc 0) ≠ (b8 ((2 + 1 : Nat)))))) (y_pickF rfl (decide_eq_false hq170) rfl) ?_
              refine c_nil ?_
              refine n_then ?_
              have hq172 : ¬ (((List.replicate (l2.length) (b8 ((2 + 1 : Nat) : Int))).getD kc 0) ≠ (b8 ((2 + 1 : Nat)))) := (fun hne => hne (rp_get (by omega)))
              refine c_f rfl (decide_eq_false hq172) ?_
              refine wp_skip ?_
              refine n_block (n_then ?_)
              refine c_reg ?_
              refine sy (v := I ((kc : Nat) : Int)) (y_move s10_168) ?_
              refine sy (v := I ((kc + 1 : Nat) : Int)) (n_add (a := kc) (b := 1) rfl rfl (by omega)) ?_
              refine sy (v := I ((kc + 1 : Nat) : Int)) (y_assign rfl) ?_
              refine c_nil ?_
              exact lp_next (kc + 1) ⟨s0_168, s5_168, s9_168, rfl, (by omega), H168⟩ (by show _ < _; omega)
            · skip
              refine gno (gv_of (t := 94) rfl rfl rfl) (decide_eq_false hp171) ?_
              refine gno (gv_of (t := 94) rfl rfl rfl) (decide_eq_false hp171) ?_
              refine gno (gv_of (t := 94) rfl rfl rfl) (decide_eq_false hp171) ?_
              refine gno (gv_of (t := 94) rfl rfl rfl) (decide_eq_false hp171) ?_
              refine gno (gv_of (t := 94) rfl rfl rfl) (decide_eq_false hp171) ?_
              refine gno (gv_of (t := 94) rfl rfl rfl) (decide_eq_false hp171) ?_
              refine gno (gv_of (t := 94) rfl rfl rfl) (decide_eq_false hp171) ?_
              refine gno (gv_of (t := 94) rfl rfl rfl) (decide_eq_false hp171) ?_
              refine gno (gv_of (t := 94) rfl rfl rfl) (decide_eq_false hp171) ?_
              refine gno (gv_of (t := 94) rfl rfl rfl) (decide_eq_false hp171) ?_
              refine gno (gv_of (t := 94) rfl rfl rfl) (decide_eq_false hp171) ?_
              refine gsy (v := .bool (false)) (gv_of (t := 86) rfl rfl rfl) (decide_eq_false hq170) (y_pickF (v := .bool (false)) rfl (decide_eq_false hp171) rfl) ?_
              refine sy (v := .bool (false)) (y_pickF rfl (decide_eq_false hq170) rfl) ?_
              refine c_nil ?_
              refine n_then ?_
              refine c_f rfl rfl ?_
              refine wp_skip ?_
              refine n_block (n_then ?_)
              refine c_reg ?_
              refine sy (v := I ((kc : Nat) : Int)) (y_move s10_168) ?_
              refine sy (v := I ((kc + 1 : Nat) : Int)) (n_add (a := kc) (b := 1) rfl rfl (by omega)) ?_
              refine sy (v := I ((kc + 1 : Nat) : Int)) (y_assign rfl) ?_
              refine c_nil ?_
              exact lp_next (kc + 1) ⟨s0_168, s5_168, s9_168, rfl, (by omega), H168⟩ (by show _ < _; omega)
          · skip
            refine wp_exit ?_
            refine x_then (x_then (x_hit (n_block (n_then ?_))))
            refine c_reg ?_
            refine sy (v := I ((2 : Nat) : Int)) (y_move s9_168) ?_
            refine sy (v := I ((2 + 1 : Nat) : Int)) (n_add (a := 2) (b := 1) rfl rfl (by omega)) ?_
            refine sy (v := I ((2 + 1 : Nat) : Int)) (y_assign rfl) ?_
            refine c_nil ?_
            exact lp_next (2 + 1) ⟨s0_168, s5_168, rfl, (by omega), H168⟩ (by show _ < _; omega)
      · skip
        refine wp_exit ?_
        refine x_then (x_then (x_hit (n_then ?_)))
        refine c_seq ?_
        refine c_reg ?_
        refine sy (v := .bool (true)) (y_assign (v := .bool (true)) rfl) ?_
        refine c_nil ?_
        refine n_then ?_
        refine wp_ret ?_
        refine e_r1 Tryd.results12 (rv_t rfl) ?_
        exact ⟨_, rfl, rfl, H150.below⟩

end Go.Proofs.YtdcmbcjkdhdohaaDoor
