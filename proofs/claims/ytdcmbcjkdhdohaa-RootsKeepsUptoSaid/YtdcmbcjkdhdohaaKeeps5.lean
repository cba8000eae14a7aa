/- The walk of spoil. -/
import Derived.Test.YtdcmbcjkdhdohaaKeeps4
namespace Go.Proofs.Ytdcmbcjkdhdohaa
open Go Go.RowKit
set_option linter.unusedSimpArgs false
set_option linter.unusedVariables false
section
variable {P : Program} {w w0 : World} {X : List Nat} {L : List Part} {E : Part} {e s n i k : Nat} {v : Value} {cs us : List Value} {nn : Nat} {f : Nat → Value} {x y : Operand} {t ty : TypeId}
/-- A store of an element of s cells into an own slice. -/
theorem ow_storeOSA (ho : OS e s v n cs E) (H : St w0 X (E :: L) w) (hs : Sz P t s) (hl : us.length = s) (h0 : 0 < s) (hx : ev nn f x = Ad (sp v) k) (hy : ev nn f y = .agg us.toArray) (h1 : ∀ u ∈ us, u.oneCell' = true) (hk : k = i * s) (hi : i < n) :
    OW P nn f (.store t x y) ty w (fun _ w' => ∃ E', OS e s v n (cs.take (i * s) ++ us ++ cs.drop (i * s + s)) E' ∧ St w0 X (E' :: L) w') := by
  rcases ho with ⟨-, rfl, -⟩ | ⟨g, cap, cur, rfl, rfl, hn, hm, hcl, htk⟩
  · omega
  · have hin : i * s + s ≤ n * s := by rw [← Nat.succ_mul]; exact Nat.mul_le_mul_right _ hi
    have hnc : n * s ≤ cap * s := Nat.mul_le_mul_right _ hn
    refine (ow_storeA (k := k) H hs hl hx hy h1 (by omega)).mono fun _ w' h => ⟨_, .inr ⟨g, cap, _, rfl, rfl, hn, hm, ?_, ?_⟩, h⟩
    · simp only [List.length_append, List.length_take, List.length_drop]; omega
    · subst hk
      rw [← htk]
      have e1 : (cur.take (n * s)).take (i * s) = cur.take (i * s) := by rw [List.take_take, Nat.min_eq_left (by omega)]
      have e2 : (cur.take (n * s)).drop (i * s + s) = (cur.drop (i * s + s)).take (n * s - (i * s + s)) := by rw [List.drop_take]
      rw [e1, e2, List.take_append, List.length_append, List.length_take, hl, Nat.min_eq_left (by omega)]
      congr 1
      exact List.take_of_length_le (by rw [List.length_append, List.length_take]; omega)
/-- A store of a hash into an own slice of hashes. -/
theorem ow_storeOSH {hs : List (List UInt8)} {h : List UInt8} (ho : OS e 32 v hs.length (hs.flatten.map B8) E) (hh : H32 hs) (H : St w0 X (E :: L) w) (hz : Sz P t 32) (hl : h.length = 32) (hx : ev nn f x = Ad (sp v) k) (hy : ev nn f y = .agg (h.map B8).toArray) (hk : k = i * 32) (hi : i < hs.length) :
    OW P nn f (.store t x y) ty w (fun _ w' => ∃ E', OS e 32 v (hs.set i h).length ((hs.set i h).flatten.map B8) E' ∧ St w0 X (E' :: L) w') := by
  refine (ow_storeOSA ho H hz (by rw [List.length_map]; exact hl) (by omega) hx hy (map_one (F := B8) (fun _ => rfl) _) hk hi).mono fun _ w' ⟨E', h1, h2⟩ => ⟨E', ?_, h2⟩
  rw [flat_set hh hi] at h1
  rw [List.length_set]; exact h1
/-- A slice of ours, its cells forgotten. -/
def OX (e s : Nat) (v : Value) (n : Nat) (E : Part) : Prop := ∃ cs, OS e s v n cs E
theorem OX.of {m : Nat} {xv : Value} {ds : List Value} (h : TS e s xv m ds v n cs E) (H : St w0 X (E :: L) w) : ∃ Ex Er, OX e s xv m Ex ∧ St w0 X (Ex :: Er :: L) w := by
  obtain ⟨-, ⟨h1, -⟩ | ⟨Ex, Eu, rfl, h1, h2, hd⟩⟩ := h
  · exact ⟨E, [], ⟨_, h1⟩, H.nilp.foc 1 rfl rfl⟩
  · exact ⟨Ex, Eu, ⟨_, h1⟩, (H.split hd).foc 1 rfl rfl⟩
theorem ow_storeOX (ho : OX e s v n E) (H : St w0 X (E :: L) w) (hs : Sz P t s) (hl : us.length = s) (h0 : 0 < s) (hx : ev nn f x = Ad (sp v) k) (hy : ev nn f y = .agg us.toArray) (h1 : ∀ u ∈ us, u.oneCell' = true) (hk : k = i * s) (hi : i < n) :
    OW P nn f (.store t x y) ty w (fun _ w' => ∃ E', OX e s v n E' ∧ St w0 X (E' :: L) w') := by
  obtain ⟨cs, ho⟩ := ho
  exact (ow_storeOSA ho H hs hl h0 hx hy h1 hk hi).mono fun _ w' ⟨E', q1, q2⟩ => ⟨E', ⟨_, q1⟩, q2⟩
theorem OX.rd (h : OX e s v n E) (H : St w0 X L w) (i : Nat) (hi : L[i]? = some E) : ∃ cs, Rd [] w s v n cs := by
  obtain ⟨cs, h⟩ := h
  exact ⟨cs, h.rd H i hi⟩
end
/-- The hash of byte c ahead. -/
def hcB (c : UInt8) : List UInt8 := (List.replicate 32 0).set 0 c
theorem hcB_len (c : UInt8) : (hcB c).length = 32 := by unfold hcB; simp
/-- The first k hashes are h. -/
def fkh (h : List UInt8) (k : Nat) (hs : List (List UInt8)) : List (List UInt8) := List.replicate k h ++ hs.drop k
theorem fkh_len {h : List UInt8} {k : Nat} {hs : List (List UInt8)} (hk : k ≤ hs.length) : (fkh h k hs).length = hs.length := by simp [fkh]; omega
theorem fkh_step {h : List UInt8} {k : Nat} {hs : List (List UInt8)} (hk : k < hs.length) : (fkh h k hs).set k h = fkh h (k + 1) hs := by
  unfold fkh
  rw [List.set_append_right _ _ (by simp), List.length_replicate, Nat.sub_self, List.drop_eq_getElem_cons hk, List.set_cons_zero, List.replicate_succ', List.append_assoc]
  rfl
theorem fkh_h32 {h : List UInt8} {k : Nat} {hs : List (List UInt8)} (hl : h.length = 32) (hh : H32 hs) : H32 (fkh h k hs) := by
  intro q hq
  rcases List.mem_append.1 hq with hq | hq
  · rw [List.eq_of_mem_replicate hq]; exact hl
  · exact hh q (List.mem_of_mem_drop hq)
theorem fkh_end (h : List UInt8) (hs : List (List UInt8)) : fkh h hs.length hs = List.replicate hs.length h := by simp [fkh]
end Go.Proofs.Ytdcmbcjkdhdohaa
namespace Go.Proofs.Ytdcmbcjkdhdohaa
open Go Go.RowKit
set_option linter.unusedSimpArgs false
set_option linter.unusedVariables false
attribute [local irreducible] wpList wpP Code.wp

theorem ts_x {e s k n : Nat} {xv v : Value} {ds cs : List Value} {E : Part} {w w0 : World} {X : List Nat} {L : List Part} (h : TS e s xv k ds v n cs E) (H : St w0 X (E :: L) w) : ∃ Ex Er, OS e s xv k ds Ex ∧ St w0 X (Ex :: Er :: L) w := by
  obtain ⟨-, ⟨h1, -⟩ | ⟨Ex, Eu, rfl, h1, h2, hd⟩⟩ := h
  · exact ⟨E, [], h1, H.nilp.foc 1 rfl rfl⟩
  · exact ⟨Ex, Eu, h1, (H.split hd).foc 1 rfl rfl⟩
theorem rph_h32 {n : Nat} {h : List UInt8} (hl : h.length = 32) : H32 (List.replicate n h) := fun q hq => by rw [List.eq_of_mem_replicate hq]; exact hl
theorem rph_get {n k : Nat} {h : List UInt8} (hk : k < n) : (List.replicate n h).getD k [] = h := by rw [List.getD_eq_getElem?_getD, List.getElem?_replicate, if_pos hk]; rfl

attribute [local irreducible] leafH innerH topH rootH rootA sha checkA

set_option maxHeartbeats 8000000 in
set_option maxRecDepth 20000 in
theorem spoil0_c (X : List Nat) (w0 w : World) (n : Int) (lv : Value)  (E  : Part) (H : St w0 X [E] w) (hE : OS 74 5 lv 0 (([] : List Lf).flatMap Lf.cs) E)  :
    Calls Try.prog 48 (([.agg ([I n, lv]).toArray] : List Value).toArray) w (fun e w' => ∃ v, e = .returned v ∧ v = .bool true ∧ St w0 X [] w') := by
 refine calls_mk Try.func48 rfl 128 Try.ntmps48 rfl ?_
 have H0 : St w0 X [E] w := H
 refine c_seq ?_
 refine c_reg ?_
 refine st (ow_box (l := [I (n), lv]) H0 rfl rfl) ?_
 rintro _ w2 ⟨g1, rfl, H3⟩
 refine sy (v := .bool (false)) (y_assign (v := .bool (false)) rfl) ?_
 refine c_nil ?_
 refine n_then ?_
 refine c_seq ?_
 refine c_reg ?_
 refine sy (v := .agg ([.slice none 0 0, .slice none 0 0, I ((0 : Nat) : Int), .bool false]).toArray) (y_build (parts := []) (pv := []) (us := [.slice none 0 0, .slice none 0 0, I ((0 : Nat) : Int), .bool (false)]) trivial (by kernel_rfl)) ?_
 refine st (ow_box (l := [.slice none 0 0, .slice none 0 0, I ((0 : Nat) : Int), .bool (false)]) H3 rfl rfl) ?_
 rintro _ w5 ⟨g4, rfl, H6⟩
 refine sy (v := Ad (bs g4) (0)) (y_assign rfl) ?_
 refine c_nil ?_
 refine n_then ?_
 refine c_seq ?_
 refine c_seq ?_
 refine c_reg ?_
 refine sy (v := I ((0 : Nat) : Int)) (y_assign (v := I ((0 : Nat) : Int)) rfl) ?_
 refine c_nil ?_
 refine n_then ?_
 refine wp_block ?_
 refine c_loop (fun (i : Nat) f7 w8 => ∃ (tot : Nat), ∃ (xs : List Value), ∃ (us : List Value), ∃ (EK : Part), f7 1 = Ad (bs g1) (0) ∧ f7 3 = Ad (bs g4) (0) ∧ f7 4 = I ((i : Nat) : Int) ∧ i ≤ 0 ∧ BookA g4 tot xs us EK ∧ xs.length = i ∧ tot ≤ i * 1048576 ∧ St w0 X [EK, [(g1, Rw 41 ([I (n), lv]))], E] w8) (fun i => 0 - i) 0 ⟨0, [], [], [(g4, Rw 71 [.slice none 0 0, .slice none 0 0, I ((0 : Nat) : Int), .bool false])], rfl, rfl, rfl, (by omega), (booka_new g4), rfl, (by omega), H6⟩ ?_
 rintro i f7 w8 ⟨tot, xs, us, EK, s1_9, s3_9, s4_9, hi, hBK, hxl, htot, H9⟩
 refine c_seq ?_
 refine c_seq ?_
 refine c_reg ?_
 refine sy (v := I ((i : Nat) : Int)) (y_move s4_9) ?_
 refine sy (v := Ad (bs g1) (0 + 1)) (y_fld Try.underlying41 rfl rfl sz39 (by decide) s1_9) ?_
 refine sy (v := lv) (y_load sc39 rfl (H9.cell 1 rfl rfl)) ?_
 refine sy (v := I ((0 : Nat) : Int)) (y_lenR Try.underlying39 (hE.rd H9 2 rfl) rfl) ?_
 refine sy (v := .bool (decide (i < 0))) (n_lss (a := i) (b := 0) rfl rfl) ?_
 refine c_nil ?_
 refine n_then ?_
 have hq10 : ¬ (i < 0) := (by omega)
 refine c_f rfl (decide_eq_false hq10) ?_
 refine wp_exit ?_
 refine x_then (x_then (x_hit (n_then ?_)))
 refine c_seq ?_
 refine c_seq ?_
 refine c_reg ?_
 refine sy (v := I ((0 : Nat) : Int)) (y_assign (v := I ((0 : Nat) : Int)) rfl) ?_
 refine c_nil ?_
 refine n_then ?_
 refine wp_block ?_
 refine c_loop (fun (ib : Nat) f11 w12 => f11 1 = Ad (bs g1) (0) ∧ f11 3 = Ad (bs g4) (0) ∧ f11 7 = I ((ib : Nat) : Int) ∧ ib ≤ 0 ∧ St w0 X [EK, [(g1, Rw 41 ([I (n), lv]))], E] w12) (fun ib => 0 - ib) 0 ⟨s1_9, s3_9, rfl, (by omega), H9⟩ ?_
 rintro ib f11 w12 ⟨s1_13, s3_13, s7_13, hib, H13⟩
 refine c_seq ?_
 refine c_seq ?_
 refine c_reg ?_
 refine sy (v := I ((ib : Nat) : Int)) (y_move s7_13) ?_
 refine sy (v := Ad (bs g1) (0 + 1)) (y_fld Try.underlying41 rfl rfl sz39 (by decide) s1_13) ?_
 refine sy (v := lv) (y_load sc39 rfl (H13.cell 1 rfl rfl)) ?_
 refine sy (v := I ((0 : Nat) : Int)) (y_lenR Try.underlying39 (hE.rd H13 2 rfl) rfl) ?_
 refine sy (v := .bool (decide (ib < 0))) (n_lss (a := ib) (b := 0) rfl rfl) ?_
 refine c_nil ?_
 refine n_then ?_
 have hq14 : ¬ (ib < 0) := (by omega)
 refine c_f rfl (decide_eq_false hq14) ?_
 refine wp_exit ?_
 refine x_then (x_then (x_hit (n_then ?_)))
 refine c_seq ?_
 refine c_seq ?_
 refine c_reg ?_
 refine sy (v := I ((0 : Nat) : Int)) (y_assign (v := I ((0 : Nat) : Int)) rfl) ?_
 refine c_nil ?_
 refine n_then ?_
 refine wp_block ?_
 refine c_loop (fun (ic : Nat) f15 w16 => f15 1 = Ad (bs g1) (0) ∧ f15 3 = Ad (bs g4) (0) ∧ f15 10 = I ((ic : Nat) : Int) ∧ ic ≤ 0 ∧ St w0 X [EK, [(g1, Rw 41 ([I (n), lv]))], E] w16) (fun ic => 0 - ic) 0 ⟨s1_13, s3_13, rfl, (by omega), H13⟩ ?_
 rintro ic f15 w16 ⟨s1_17, s3_17, s10_17, hf0_17, H17⟩
 refine c_seq ?_
 refine c_seq ?_
 refine c_reg ?_
 refine sy (v := I ((ic : Nat) : Int)) (y_move s10_17) ?_
 refine sy (v := Ad (bs g1) (0 + 1)) (y_fld Try.underlying41 rfl rfl sz39 (by decide) s1_17) ?_
 refine sy (v := lv) (y_load sc39 rfl (H17.cell 1 rfl rfl)) ?_
 refine sy (v := I ((0 : Nat) : Int)) (y_lenR Try.underlying39 (hE.rd H17 2 rfl) rfl) ?_
 refine sy (v := .bool (decide (ic < 0))) (n_lss (a := ic) (b := 0) rfl rfl) ?_
 refine c_nil ?_
 refine n_then ?_
 have hq18 : ¬ (ic < 0) := (by omega)
 refine c_f rfl (decide_eq_false hq18) ?_
 refine wp_exit ?_
 refine x_then (x_then (x_hit (n_then ?_)))
 refine c_seq ?_
 refine c_reg ?_
 refine sy (v := Ad (bs g1) (0 + 1)) (y_fld Try.underlying41 rfl rfl sz39 (by decide) s1_17) ?_
 refine sy (v := lv) (y_load sc39 rfl (H17.cell 1 rfl rfl)) ?_
 refine sy (v := lv) (y_assign rfl) ?_
 refine c_nil ?_
 refine n_then ?_
 refine c_seq ?_
 refine c_seq ?_
 refine c_reg ?_
 refine sy (v := I ((0 : Nat) : Int)) (y_assign (v := I ((0 : Nat) : Int)) rfl) ?_
 refine c_nil ?_
 refine n_then ?_
 refine wp_block ?_
 refine c_loop (fun (qd : Nat) f19 w20 => ∃ (ul : Value), ∃ (zl : List Value), ∃ (EL : Part), f19 1 = Ad (bs g1) (0) ∧ f19 3 = Ad (bs g4) (0) ∧ f19 13 = ul ∧ f19 14 = I ((qd : Nat) : Int) ∧ qd ≤ 9 ∧ TS 74 5 lv 0 (([] : List Lf).flatMap Lf.cs) ul (0 + qd) zl EL ∧ St w0 X [EK, [(g1, Rw 41 ([I (n), lv]))], EL] w20) (fun qd => 9 - qd) 0 ⟨_, _, _, s1_17, s3_17, rfl, rfl, (by omega), (TS.refl hE), H17⟩ ?_
 rintro qd f19 w20 ⟨ul, zl, EL, s1_21, s3_21, s13_21, s14_21, hqd, htl, H21⟩
 refine c_seq ?_
 refine c_seq ?_
 refine c_reg ?_
 refine sy (v := I ((qd : Nat) : Int)) (y_move s14_21) ?_
 refine sy (v := .bool (decide (qd < 9))) (n_lss (a := qd) (b := 9) rfl rfl) ?_
 refine c_nil ?_
 refine n_then ?_
 refine c_if rfl (fun hc22 => ?_) (fun hc22 => ?_)
 ·
  refine wp_skip ?_
  refine n_then ?_
  refine c_seq ?_
  refine wp_block ?_
  refine c_reg ?_
  refine sy (v := ul) (y_move s13_21) ?_
  refine sy (v := .agg ([I (-8), I ((0 : Nat) : Int), .string .empty, .slice none 0 0, .slice none 0 0]).toArray) (y_build (pv := [(0, I (-8))]) (us := [I (-8), I ((0 : Nat) : Int), .string (.empty), .slice none 0 0, .slice none 0 0]) ⟨⟨rfl, rfl⟩, trivial⟩ (by kernel_rfl)) ?_
  refine st (ow_buildSlice (pv := [(0, .agg ([I (-8), I ((0 : Nat) : Int), .string .empty, .slice none 0 0, .slice none 0 0]).toArray)]) (us := [I (-8), I ((0 : Nat) : Int), .string (.empty), .slice none 0 0, .slice none 0 0]) Try.underlying39 sz74 zr74 H21 ⟨⟨rfl, rfl⟩, trivial⟩ (by decide) (by kernel_rfl)) ?_
  rintro _ w24 ⟨g23, rfl, H25⟩
  have H26 : St w0 _ [_, _, _, _] w24 := H25.foc 3 rfl rfl
  refine st (ow_append_ts (m := 1) Try.underlying39 sz74 zr74 bt74 rfl htl H26 rfl rfl ((H26.rd (n := 1) (s := 5) (cap := 1) 1 rfl (by simp) ⟨Nat.le_refl _, by simp [maxLen]⟩).src Try.underlying39 (by simp [Value.oneCell'])) (by omega) (by omega)) ?_
  rintro v28 w29 ⟨E27, ho31, H30⟩
  refine sy (v := v28) (y_assign rfl) ?_
  refine c_nil ?_
  refine n_block (n_then ?_)
  refine c_reg ?_
  refine sy (v := I ((qd : Nat) : Int)) (y_move s14_21) ?_
  refine sy (v := I ((qd + 1 : Nat) : Int)) (n_add (a := qd) (b := 1) rfl rfl (by omega)) ?_
  refine sy (v := I ((qd + 1 : Nat) : Int)) (y_assign rfl) ?_
  refine c_nil ?_
  have H32 : St w0 _ [_, _, _, _] w29 := H30.foc 3 rfl rfl
  have H33 : St w0 _ [_, _, _, _] w29 := H32.foc 3 rfl rfl
  have H34 : St w0 _ [_, _, _] w29 := H33.take 3 rfl
  exact lp_next (qd + 1) ⟨v28, _, E27, s1_21, s3_21, rfl, rfl, (by omega), ho31, H34⟩ (by show _ < _; omega)
 ·
  obtain rfl : qd = 9 := by omega
  refine wp_exit ?_
  refine x_then (x_then (x_hit (n_then ?_)))
  refine c_seq ?_
  refine c_reg ?_
  refine sy (v := Ad (bs g4) (0)) (y_move s3_21) ?_
  obtain ⟨s37, s38, hr39⟩ := hBK.rd H21 0 rfl
  refine st (ow_call fn52 rfl (stays_bc g4 tot s37 s38 xs us _ hr39 (by omega)) ⟨rfl, trivial⟩) ?_
  rintro _ w35 ⟨rfl, hB36⟩
  have H40 : St w0 _ [_, _, _] w35 := H21.call hB36
  refine sy (v := .bool (true)) (y_assign rfl) ?_
  refine c_nil ?_
  refine n_then ?_
  refine c_seq ?_
  refine c_seq ?_
  have H41 : St w0 _ [_, _, _] w35 := H40.foc 2 rfl rfl
  obtain ⟨EX7, ER7, hox7, H42⟩ := OX.of htl H41
  refine c_reg ?_
  refine sy (v := I ((0 : Nat) : Int)) (y_assign (v := I ((0 : Nat) : Int)) rfl) ?_
  refine c_nil ?_
  refine n_then ?_
  refine wp_block ?_
  refine c_loop (fun (ie : Nat) f43 w44 => ∃ (E7 : Part), f43 1 = Ad (bs g1) (0) ∧ f43 15 = .bool (true) ∧ f43 16 = I ((ie : Nat) : Int) ∧ ie ≤ 0 ∧ OX 74 5 lv 0 E7 ∧ St w0 X [E7, ER7, EK, [(g1, Rw 41 ([I (n), lv]))]] w44) (fun ie => 0 - ie) 0 ⟨_, s1_21, rfl, rfl, (by omega), hox7, H42⟩ ?_
  rintro ie f43 w44 ⟨E7, s1_45, s15_45, s16_45, hie, ho7, H45⟩
  refine c_seq ?_
  refine c_seq ?_
  obtain ⟨cs46, hrd47⟩ := OX.rd ho7 H45 0 rfl
  refine c_reg ?_
  refine sy (v := I ((ie : Nat) : Int)) (y_move s16_45) ?_
  refine sy (v := Ad (bs g1) (0 + 1)) (y_fld Try.underlying41 rfl rfl sz39 (by decide) s1_45) ?_
  refine sy (v := lv) (y_load sc39 rfl (H45.cell 3 rfl rfl)) ?_
  refine sy (v := I ((0 : Nat) : Int)) (y_lenR Try.underlying39 hrd47 rfl) ?_
  refine sy (v := .bool (decide (ie < 0))) (n_lss (a := ie) (b := 0) rfl rfl) ?_
  refine c_nil ?_
  refine n_then ?_
  have hq48 : ¬ (ie < 0) := (by omega)
  refine c_f rfl (decide_eq_false hq48) ?_
  refine wp_exit ?_
  refine x_then (x_then (x_hit (n_then ?_)))
  refine c_seq ?_
  refine c_reg ?_
  refine sy (v := .bool (true)) (y_move s15_45) ?_
  refine sy (v := .bool (true)) (y_assign rfl) ?_
  refine c_nil ?_
  refine n_then ?_
  refine wp_ret ?_
  refine e_r1 Try.results48 (rv_t rfl) ?_
  exact ⟨_, rfl, rfl, H45.take 0 rfl⟩

set_option maxHeartbeats 8000000 in
set_option maxRecDepth 20000 in
theorem spoil1_c (X : List Nat) (w0 w : World) (n : Int) (lv : Value) (f0 : Lf) (E Ev0 Ep0 : Part) (H : St w0 X [Ev0, Ep0, E] w) (hE : OS 74 5 lv 1 (([f0] : List Lf).flatMap Lf.cs) E) (hv0 : OS 5 1 f0.cell.v f0.cell.c.l.length (f0.cell.c.l.map B8) Ev0) (hp0 : OS 26 32 f0.pv f0.path.length (f0.path.flatten.map B8) Ep0) (hh0 : H32 f0.path) (hb0 : f0.cell.c.l.length ≤ 1048576) (hn0 : f0.path.length ≤ 1099511627776) :
    Calls Try.prog 48 (([.agg ([I n, lv]).toArray] : List Value).toArray) w (fun e w' => ∃ v, e = .returned v ∧ v = .bool true ∧ St w0 X [] w') := by
 refine calls_mk Try.func48 rfl 128 Try.ntmps48 rfl ?_
 have H0 : St w0 X [Ev0, Ep0, E] w := H
 refine c_seq ?_
 refine c_reg ?_
 refine st (ow_box (l := [I (n), lv]) H0 rfl rfl) ?_
 rintro _ w2 ⟨g1, rfl, H3⟩
 refine sy (v := .bool (false)) (y_assign (v := .bool (false)) rfl) ?_
 refine c_nil ?_
 refine n_then ?_
 refine c_seq ?_
 refine c_reg ?_
 refine sy (v := .agg ([.slice none 0 0, .slice none 0 0, I ((0 : Nat) : Int), .bool false]).toArray) (y_build (parts := []) (pv := []) (us := [.slice none 0 0, .slice none 0 0, I ((0 : Nat) : Int), .bool (false)]) trivial (by kernel_rfl)) ?_
 refine st (ow_box (l := [.slice none 0 0, .slice none 0 0, I ((0 : Nat) : Int), .bool (false)]) H3 rfl rfl) ?_
 rintro _ w5 ⟨g4, rfl, H6⟩
 refine sy (v := Ad (bs g4) (0)) (y_assign rfl) ?_
 refine c_nil ?_
 refine n_then ?_
 refine c_seq ?_
 refine c_seq ?_
 refine c_reg ?_
 refine sy (v := I ((0 : Nat) : Int)) (y_assign (v := I ((0 : Nat) : Int)) rfl) ?_
 refine c_nil ?_
 refine n_then ?_
 refine wp_block ?_
 refine c_loop (fun (i : Nat) f7 w8 => ∃ (tot : Nat), ∃ (xs : List Value), ∃ (us : List Value), ∃ (EK : Part), ∃ (G0 : Part), ∃ (Q0 : Part), f7 1 = Ad (bs g1) (0) ∧ f7 3 = Ad (bs g4) (0) ∧ f7 4 = I ((i : Nat) : Int) ∧ i ≤ 1 ∧ BookA g4 tot xs us EK ∧ xs.length = i ∧ tot ≤ i * 1048576 ∧ (if 0 < i then G0 = [] else OS 5 1 f0.cell.v f0.cell.c.l.length (f0.cell.c.l.map B8) G0) ∧ OS 26 32 f0.pv f0.path.length ((if 0 < i then (List.replicate f0.path.length (hcB (b8 ((0 + 1 : Nat) : Int)))) else f0.path).flatten.map B8) Q0 ∧ St w0 X [EK, [(g1, Rw 41 ([I (n), lv]))], G0, Q0, E] w8) (fun i => 1 - i) 0 ⟨0, [], [], [(g4, Rw 71 [.slice none 0 0, .slice none 0 0, I ((0 : Nat) : Int), .bool false])], Ev0, Ep0, rfl, rfl, rfl, (by omega), (booka_new g4), rfl, (by omega), hv0, hp0, H6⟩ ?_
 rintro i f7 w8 ⟨tot, xs, us, EK, G0, Q0, s1_9, s3_9, s4_9, hi, hBK, hxl, htot, hV0, hQ0, H9⟩
 refine c_seq ?_
 refine c_seq ?_
 refine c_reg ?_
 refine sy (v := I ((i : Nat) : Int)) (y_move s4_9) ?_
 refine sy (v := Ad (bs g1) (0 + 1)) (y_fld Try.underlying41 rfl rfl sz39 (by decide) s1_9) ?_
 refine sy (v := lv) (y_load sc39 rfl (H9.cell 1 rfl rfl)) ?_
 refine sy (v := I ((1 : Nat) : Int)) (y_lenR Try.underlying39 (hE.rd H9 4 rfl) rfl) ?_
 refine sy (v := .bool (decide (i < 1))) (n_lss (a := i) (b := 1) rfl rfl) ?_
 refine c_nil ?_
 refine n_then ?_
 refine c_if rfl (fun hc10 => ?_) (fun hc10 => ?_)
 ·
  obtain rfl : i = 0 := by omega
  ·
   have hvx : OS 5 1 f0.cell.v f0.cell.c.l.length (f0.cell.c.l.map B8) G0 := hV0
   have hpx : OS 26 32 f0.pv f0.path.length (f0.path.flatten.map B8) Q0 := hQ0
   have hbx := hb0
   refine wp_skip ?_
   refine n_then ?_
   refine c_seq ?_
   refine wp_block ?_
   refine c_seq ?_
   refine c_reg ?_
   refine sy (v := Ad (bs g4) (0)) (y_move s3_9) ?_
   refine sy (v := Ad (bs g1) (0 + 1)) (y_fld Try.underlying41 rfl rfl sz39 (by decide) s1_9) ?_
   refine sy (v := lv) (y_load sc39 rfl (H9.cell 1 rfl rfl)) ?_
   refine sy (v := I ((0 : Nat) : Int)) (y_move s4_9) ?_
   refine sy (v := Ad (sp (lv)) (0 * 5)) (y_ixR (m := 0) Try.underlying39 sz74 (hE.rd H9 4 rfl) (by decide) rfl rfl rfl (by omega)) ?_
   refine sy (v := Ad (sp (lv)) ((0 * 5) + 1)) (y_fld Try.underlying74 rfl rfl sz48 (by decide) rfl) ?_
   refine sy (v := Ad (sp (lv)) (((0 * 5) + 1) + 2)) (y_fld Try.underlying48 rfl rfl sz23 (by decide) rfl) ?_
   refine sy (v := f0.cell.v) (y_load sc23 rfl ((hE.rd H9 4 rfl).cell _ _ (show (([f0] : List Lf).flatMap Lf.cs)[3]? = _ from rfl))) ?_
   have H11 : St w0 _ [_, _, _, _, _] w8 := H9.foc 4 rfl rfl
   have H12 : St w0 _ [_, _, _, _, _] w8 := H11.foc 4 rfl rfl
   have H13 : St w0 _ [_, _, _, _, _] w8 := H12.foc 3 rfl rfl
   have H14 : St w0 _ [_, _, _, _, _] w8 := H13.foc 3 rfl rfl
   have H15 : St w0 _ [_, _, _, _, _] w8 := H14.foc 4 rfl rfl
   obtain ⟨H16, hd17⟩ := H15.join
   refine st (ow_call fn51 rfl (add_c g4 tot xs us EK G0 (f0.cell.v) f0.cell.c.l _ hBK hvx hd17 (fun p hp => H16.own _ List.mem_cons_self p hp) (by first | omega | (simp only [List.length_nil]; omega)) (by omega)) ⟨rfl, rfl, trivial⟩) ?_
   rintro _ w20 ⟨rfl, u18, EB19, hB22, H21⟩
   have H23 : St w0 _ [_, _, _, _] w20 := H16.appE H21
   refine c_nil ?_
   refine n_then ?_
   refine c_seq ?_
   refine c_reg ?_
   refine sy (v := Ad (bs g1) (0 + 1)) (y_fld Try.underlying41 rfl rfl sz39 (by decide) s1_9) ?_
   refine sy (v := lv) (y_load sc39 rfl (H23.cell 1 rfl rfl)) ?_
   refine sy (v := I ((0 : Nat) : Int)) (y_move s4_9) ?_
   refine sy (v := Ad (sp (lv)) (0 * 5)) (y_ixR (m := 0) Try.underlying39 sz74 (hE.rd H23 3 rfl) (by decide) rfl rfl rfl (by omega)) ?_
   refine sy (v := Ad (sp (lv)) ((0 * 5) + 4)) (y_fld Try.underlying74 rfl rfl sz72 (by decide) rfl) ?_
   refine sy (v := f0.pv) (y_load sc72 rfl ((hE.rd H23 3 rfl).cell _ _ (show (([f0] : List Lf).flatMap Lf.cs)[4]? = _ from rfl))) ?_
   refine sy (v := f0.pv) (y_assign rfl) ?_
   refine c_nil ?_
   refine n_then ?_
   refine c_seq ?_
   refine c_reg ?_
   refine sy (v := I ((0 : Nat) : Int)) (y_assign (v := I ((0 : Nat) : Int)) rfl) ?_
   refine c_nil ?_
   refine n_then ?_
   refine wp_block ?_
   refine c_loop (fun (k : Nat) f24 w25 => ∃ (EP : Part), f24 1 = Ad (bs g1) (0) ∧ f24 3 = Ad (bs g4) (0) ∧ f24 4 = I ((0 : Nat) : Int) ∧ f24 5 = f0.pv ∧ f24 6 = I ((k : Nat) : Int) ∧ k ≤ f0.path.length ∧ OS 26 32 f0.pv f0.path.length ((fkh (hcB (b8 ((0 + 1 : Nat) : Int))) k f0.path).flatten.map B8) EP ∧ St w0 X [EB19, [(g1, Rw 41 ([I (n), lv]))], EP, E] w25) (fun k => f0.path.length - k) 0 ⟨_, s1_9, s3_9, s4_9, rfl, rfl, (Nat.zero_le _), hpx, H23⟩ ?_
   rintro k f24 w25 ⟨EP, s1_26, s3_26, s4_26, s5_26, s6_26, hk, hoK, H26⟩
   have hfl : (fkh (hcB (b8 ((0 + 1 : Nat) : Int))) k f0.path).length = f0.path.length := fkh_len (by omega)
   refine c_seq ?_
   refine c_seq ?_
   refine c_reg ?_
   refine sy (v := I ((k : Nat) : Int)) (y_move s6_26) ?_
   refine sy (v := f0.pv) (y_move s5_26) ?_
   refine sy (v := I ((f0.path.length : Nat) : Int)) (y_lenR Try.underlying72 (hoK.rd H26 2 rfl) rfl) ?_
   refine sy (v := .bool (decide (k < f0.path.length))) (n_lss (a := k) (b := f0.path.length) rfl rfl) ?_
   refine c_nil ?_
   refine n_then ?_
   refine c_if rfl (fun hc27 => ?_) (fun hc27 => ?_)
   ·
    refine wp_skip ?_
    refine n_then ?_
    refine c_seq ?_
    refine wp_block ?_
    refine c_reg ?_
    refine sy (v := f0.pv) (y_move s5_26) ?_
    refine sy (v := I ((k : Nat) : Int)) (y_move s6_26) ?_
    refine sy (v := I ((0 : Nat) : Int)) (y_move s4_26) ?_
    refine sy (v := I ((0 + 1 : Nat) : Int)) (n_add (a := 0) (b := 1) rfl rfl (by omega)) ?_
    refine sy (v := B8 (b8 ((0 + 1 : Nat)))) (y_conv_I_8 Try.underlying3 Try.underlying5 rfl) ?_
    refine sy (v := .agg (((hcB (b8 ((0 + 1 : Nat) : Int)))).map B8).toArray) (y_build (pv := [(0, B8 (b8 ((0 + 1 : Nat) : Int)))]) (us := (hcB (b8 ((0 + 1 : Nat) : Int))).map B8) ⟨⟨rfl, rfl⟩, trivial⟩ (by kernel_rfl)) ?_
    refine sy (v := Ad (sp (f0.pv)) (k * 32)) (y_ixR (m := k) Try.underlying72 sz26 (hoK.rd H26 2 rfl) (by decide) rfl rfl rfl (by omega)) ?_
    have H32 : St w0 _ [_, _, _, _] w25 := H26.foc 2 rfl rfl
    refine s0 (ow_storeOSH (i := k) (hs := (fkh (hcB (b8 ((0 + 1 : Nat) : Int))) k f0.path)) (by rw [hfl]; exact hoK) (fkh_h32 (hcB_len _) hh0) H32 sz26 (hcB_len _) rfl rfl rfl (by omega)) ?_
    rintro _ w29 ⟨E28, ho31', H30⟩
    have ho31 : OS 26 32 f0.pv f0.path.length ((fkh (hcB (b8 ((0 + 1 : Nat) : Int))) (k + 1) f0.path).flatten.map B8) E28 := by have h := ho31'; rw [fkh_step (by omega), fkh_len (by omega)] at h; exact h
    refine c_nil ?_
    refine n_block (n_then ?_)
    refine c_reg ?_
    refine sy (v := I ((k : Nat) : Int)) (y_move s6_26) ?_
    refine sy (v := I ((k + 1 : Nat) : Int)) (n_add (a := k) (b := 1) rfl rfl (by omega)) ?_
    refine sy (v := I ((k + 1 : Nat) : Int)) (y_assign rfl) ?_
    refine c_nil ?_
    have H33 : St w0 _ [_, _, _, _] w29 := H30.foc 3 rfl rfl
    have H34 : St w0 _ [_, _, _, _] w29 := H33.foc 1 rfl rfl
    have H35 : St w0 _ [_, _, _, _] w29 := H34.foc 3 rfl rfl
    have H36 : St w0 _ [_, _, _, _] w29 := H35.foc 3 rfl rfl
    exact lp_next (k + 1) ⟨E28, s1_26, s3_26, s4_26, s5_26, rfl, (by omega), ho31, H36⟩ (by show _ < _; omega)
   ·
    obtain rfl : k = f0.path.length := by omega
    have hQE : OS 26 32 f0.pv f0.path.length ((List.replicate f0.path.length (hcB (b8 ((0 + 1 : Nat) : Int)))).flatten.map B8) EP := by rw [fkh_end] at hoK; exact hoK
    refine wp_exit ?_
    refine x_then (x_then (x_hit (n_block (n_then ?_))))
    refine c_reg ?_
    refine sy (v := I ((0 : Nat) : Int)) (y_move s4_26) ?_
    refine sy (v := I ((0 + 1 : Nat) : Int)) (n_add (a := 0) (b := 1) rfl rfl (by omega)) ?_
    refine sy (v := I ((0 + 1 : Nat) : Int)) (y_assign rfl) ?_
    refine c_nil ?_
    have H37 : St w0 _ [_, _, _, _, _] w25 := H26.nilp
    have H38 : St w0 _ [_, _, _, _, _] w25 := H37.foc 4 rfl rfl
    have H39 : St w0 _ [_, _, _, _, _] w25 := H38.foc 4 rfl rfl
    have H40 : St w0 _ [_, _, _, _, _] w25 := H39.foc 2 rfl rfl
    have H41 : St w0 _ [_, _, _, _, _] w25 := H40.foc 4 rfl rfl
    have H42 : St w0 _ [_, _, _, _, _] w25 := H41.foc 4 rfl rfl
    exact lp_next (0 + 1) ⟨(tot + f0.cell.c.l.length), (xs ++ [f0.cell.v]), (us ++ [u18]), EB19, [], EP, s1_26, s3_26, rfl, (by omega), hB22, (by rw [List.length_append, List.length_singleton]; omega), (by omega), rfl, hQE, H42⟩ (by show _ < _; omega)
 ·
  obtain rfl : i = 1 := by omega
  have hP0 : OS 26 32 f0.pv f0.path.length ((List.replicate f0.path.length (hcB (b8 ((0 + 1 : Nat) : Int)))).flatten.map B8) Q0 := hQ0
  refine wp_exit ?_
  refine x_then (x_then (x_hit (n_then ?_)))
  refine c_seq ?_
  refine c_seq ?_
  refine c_reg ?_
  refine sy (v := I ((0 : Nat) : Int)) (y_assign (v := I ((0 : Nat) : Int)) rfl) ?_
  refine c_nil ?_
  refine n_then ?_
  refine wp_block ?_
  refine c_loop (fun (ib : Nat) f43 w44 => ∃ (R0 : Part), f43 1 = Ad (bs g1) (0) ∧ f43 3 = Ad (bs g4) (0) ∧ f43 7 = I ((ib : Nat) : Int) ∧ ib ≤ 1 ∧ OS 26 32 f0.pv f0.path.length ((List.replicate f0.path.length (hcB (b8 ((0 + 1 : Nat) : Int)))).flatten.map B8) R0 ∧ St w0 X [EK, [(g1, Rw 41 ([I (n), lv]))], G0, R0, E] w44) (fun ib => 1 - ib) 0 ⟨_, s1_9, s3_9, rfl, (by omega), hP0, H9⟩ ?_
  rintro ib f43 w44 ⟨R0, s1_45, s3_45, s7_45, hib, hr0, H45⟩
  refine c_seq ?_
  refine c_seq ?_
  refine c_reg ?_
  refine sy (v := I ((ib : Nat) : Int)) (y_move s7_45) ?_
  refine sy (v := Ad (bs g1) (0 + 1)) (y_fld Try.underlying41 rfl rfl sz39 (by decide) s1_45) ?_
  refine sy (v := lv) (y_load sc39 rfl (H45.cell 1 rfl rfl)) ?_
  refine sy (v := I ((1 : Nat) : Int)) (y_lenR Try.underlying39 (hE.rd H45 4 rfl) rfl) ?_
  refine sy (v := .bool (decide (ib < 1))) (n_lss (a := ib) (b := 1) rfl rfl) ?_
  refine c_nil ?_
  refine n_then ?_
  refine c_if rfl (fun hc46 => ?_) (fun hc46 => ?_)
  ·
   obtain rfl : ib = 0 := by omega
   ·
    have hrl : ((List.replicate f0.path.length (hcB (b8 ((0 + 1 : Nat) : Int))))).length = f0.path.length := List.length_replicate (n := f0.path.length) (a := (hcB (b8 ((0 + 1 : Nat) : Int))))
    refine wp_skip ?_
    refine n_then ?_
    refine c_seq ?_
    refine wp_block ?_
    refine c_seq ?_
    refine c_reg ?_
    refine sy (v := Ad (bs g1) (0 + 1)) (y_fld Try.underlying41 rfl rfl sz39 (by decide) s1_45) ?_
    refine sy (v := lv) (y_load sc39 rfl (H45.cell 1 rfl rfl)) ?_
    refine sy (v := I ((0 : Nat) : Int)) (y_move s7_45) ?_
    refine sy (v := Ad (sp (lv)) (0 * 5)) (y_ixR (m := 0) Try.underlying39 sz74 (hE.rd H45 4 rfl) (by decide) rfl rfl rfl (by omega)) ?_
    refine sy (v := Ad (sp (lv)) ((0 * 5) + 4)) (y_fld Try.underlying74 rfl rfl sz72 (by decide) rfl) ?_
    refine sy (v := f0.pv) (y_load sc72 rfl ((hE.rd H45 4 rfl).cell _ _ (show (([f0] : List Lf).flatMap Lf.cs)[4]? = _ from rfl))) ?_
    refine sy (v := f0.pv) (y_assign rfl) ?_
    refine c_nil ?_
    refine n_then ?_
    refine c_seq ?_
    refine c_reg ?_
    refine sy (v := I ((0 : Nat) : Int)) (y_assign (v := I ((0 : Nat) : Int)) rfl) ?_
    refine c_nil ?_
    refine n_then ?_
    refine wp_block ?_
    refine c_loop (fun (q : Nat) f47 w48 => ∃ (uv : Value), ∃ (zs : List Value), ∃ (EZ : Part), f47 1 = Ad (bs g1) (0) ∧ f47 3 = Ad (bs g4) (0) ∧ f47 7 = I ((0 : Nat) : Int) ∧ f47 8 = uv ∧ f47 9 = I ((q : Nat) : Int) ∧ q ≤ 20 ∧ TS 26 32 f0.pv f0.path.length ((List.replicate f0.path.length (hcB (b8 ((0 + 1 : Nat) : Int)))).flatten.map B8) uv (f0.path.length + q) zs EZ ∧ St w0 X [EK, [(g1, Rw 41 ([I (n), lv]))], G0, EZ, E] w48) (fun q => 20 - q) 0 ⟨_, _, _, s1_45, s3_45, s7_45, rfl, rfl, (by omega), (TS.refl hr0), H45⟩ ?_
    rintro q f47 w48 ⟨uv, zs, EZ, s1_49, s3_49, s7_49, s8_49, s9_49, hq, hts, H49⟩
    refine c_seq ?_
    refine c_seq ?_
    refine c_reg ?_
    refine sy (v := I ((q : Nat) : Int)) (y_move s9_49) ?_
    refine sy (v := .bool (decide (q < 20))) (n_lss (a := q) (b := 20) rfl rfl) ?_
    refine c_nil ?_
    refine n_then ?_
    refine c_if rfl (fun hc50 => ?_) (fun hc50 => ?_)
    ·
     refine wp_skip ?_
     refine n_then ?_
     refine c_seq ?_
     refine wp_block ?_
     refine c_reg ?_
     refine sy (v := uv) (y_move s8_49) ?_
     refine sy (v := .agg (((hcB 238)).map B8).toArray) (y_build (pv := [(0, B8 (238))]) (us := (hcB (238)).map B8) ⟨⟨rfl, rfl⟩, trivial⟩ (by kernel_rfl)) ?_
     refine st (ow_lit1 (h := (hcB (238))) Try.underlying72 sz26 zr26 H49 rfl (hcB_len _)) ?_
     rintro _ w52 ⟨g51, rfl, H53⟩
     have hh54 : H32 [(hcB (238))] := hh_one (hcB_len _)
     have H55 : St w0 _ [_, _, _, _, _, _] w52 := H53.foc 4 rfl rfl
     refine st (ow_append_ts (m := 1) Try.underlying72 sz26 zr26 bt26 rfl hts H55 rfl rfl ((rd_hblk (n := 1) H55 1 rfl hh54 rfl (by unfold maxLen; omega)).src Try.underlying72 (map_one (F := B8) (fun _ => rfl) _)) (by omega) (by omega)) ?_
     rintro v57 w58 ⟨E56, ho60, H59⟩
     refine sy (v := v57) (y_assign rfl) ?_
     refine c_nil ?_
     refine n_block (n_then ?_)
     refine c_reg ?_
     refine sy (v := I ((q : Nat) : Int)) (y_move s9_49) ?_
     refine sy (v := I ((q + 1 : Nat) : Int)) (n_add (a := q) (b := 1) rfl rfl (by omega)) ?_
     refine sy (v := I ((q + 1 : Nat) : Int)) (y_assign rfl) ?_
     refine c_nil ?_
     have H61 : St w0 _ [_, _, _, _, _, _] w58 := H59.foc 5 rfl rfl
     have H62 : St w0 _ [_, _, _, _, _, _] w58 := H61.foc 1 rfl rfl
     have H63 : St w0 _ [_, _, _, _, _, _] w58 := H62.foc 5 rfl rfl
     have H64 : St w0 _ [_, _, _, _, _, _] w58 := H63.foc 5 rfl rfl
     have H65 : St w0 _ [_, _, _, _, _, _] w58 := H64.foc 5 rfl rfl
     have H66 : St w0 _ [_, _, _, _, _] w58 := H65.take 5 rfl
     exact lp_next (q + 1) ⟨v57, _, E56, s1_49, s3_49, s7_49, rfl, rfl, (by omega), ho60, H66⟩ (by show _ < _; omega)
    ·
     obtain rfl : q = 20 := by omega
     refine wp_exit ?_
     refine x_then (x_then (x_hit (n_block (n_then ?_))))
     refine c_reg ?_
     refine sy (v := I ((0 : Nat) : Int)) (y_move s7_49) ?_
     refine sy (v := I ((0 + 1 : Nat) : Int)) (n_add (a := 0) (b := 1) rfl rfl (by omega)) ?_
     refine sy (v := I ((0 + 1 : Nat) : Int)) (y_assign rfl) ?_
     refine c_nil ?_
     have H67 : St w0 _ [_, _, _, _, _] w48 := H49.foc 3 rfl rfl
     obtain ⟨EX, ER, hox, H68⟩ := ts_x hts H67
     have H69 : St w0 _ [_, _, _, _, _, _] w48 := H68.foc 5 rfl rfl
     have H70 : St w0 _ [_, _, _, _, _, _] w48 := H69.foc 1 rfl rfl
     have H71 : St w0 _ [_, _, _, _, _, _] w48 := H70.foc 5 rfl rfl
     have H72 : St w0 _ [_, _, _, _, _, _] w48 := H71.foc 5 rfl rfl
     have H73 : St w0 _ [_, _, _, _, _, _] w48 := H72.foc 5 rfl rfl
     have H74 : St w0 _ [_, _, _, _, _] w48 := H73.take 5 rfl
     exact lp_next (0 + 1) ⟨EX, s1_49, s3_49, rfl, (by omega), hox, H74⟩ (by show _ < _; omega)
  ·
   refine wp_exit ?_
   refine x_then (x_then (x_hit (n_then ?_)))
   refine c_seq ?_
   refine c_seq ?_
   refine c_reg ?_
   refine sy (v := I ((0 : Nat) : Int)) (y_assign (v := I ((0 : Nat) : Int)) rfl) ?_
   refine c_nil ?_
   refine n_then ?_
   refine wp_block ?_
   refine c_loop (fun (ic : Nat) f75 w76 => f75 1 = Ad (bs g1) (0) ∧ f75 3 = Ad (bs g4) (0) ∧ f75 10 = I ((ic : Nat) : Int) ∧ ic ≤ 1 ∧ St w0 X [EK, [(g1, Rw 41 ([I (n), lv]))], G0, R0, E] w76) (fun ic => 1 - ic) 0 ⟨s1_45, s3_45, rfl, (by omega), H45⟩ ?_
   rintro ic f75 w76 ⟨s1_77, s3_77, s10_77, hf0_77, H77⟩
   refine c_seq ?_
   refine c_seq ?_
   refine c_reg ?_
   refine sy (v := I ((ic : Nat) : Int)) (y_move s10_77) ?_
   refine sy (v := Ad (bs g1) (0 + 1)) (y_fld Try.underlying41 rfl rfl sz39 (by decide) s1_77) ?_
   refine sy (v := lv) (y_load sc39 rfl (H77.cell 1 rfl rfl)) ?_
   refine sy (v := I ((1 : Nat) : Int)) (y_lenR Try.underlying39 (hE.rd H77 4 rfl) rfl) ?_
   refine sy (v := .bool (decide (ic < 1))) (n_lss (a := ic) (b := 1) rfl rfl) ?_
   refine c_nil ?_
   refine n_then ?_
   refine c_if rfl (fun hc78 => ?_) (fun hc78 => ?_)
   ·
    obtain rfl : ic = 0 := by omega
    ·
     have hrl : ((List.replicate f0.path.length (hcB (b8 ((0 + 1 : Nat) : Int))))).length = f0.path.length := List.length_replicate (n := f0.path.length) (a := (hcB (b8 ((0 + 1 : Nat) : Int))))
     refine wp_skip ?_
     refine n_then ?_
     refine c_seq ?_
     refine wp_block ?_
     refine c_seq ?_
     refine c_reg ?_
     refine sy (v := Ad (bs g1) (0 + 1)) (y_fld Try.underlying41 rfl rfl sz39 (by decide) s1_77) ?_
     refine sy (v := lv) (y_load sc39 rfl (H77.cell 1 rfl rfl)) ?_
     refine sy (v := I ((0 : Nat) : Int)) (y_move s10_77) ?_
     refine sy (v := Ad (sp (lv)) (0 * 5)) (y_ixR (m := 0) Try.underlying39 sz74 (hE.rd H77 4 rfl) (by decide) rfl rfl rfl (by omega)) ?_
     refine sy (v := Ad (sp (lv)) ((0 * 5) + 4)) (y_fld Try.underlying74 rfl rfl sz72 (by decide) rfl) ?_
     refine sy (v := f0.pv) (y_load sc72 rfl ((hE.rd H77 4 rfl).cell _ _ (show (([f0] : List Lf).flatMap Lf.cs)[4]? = _ from rfl))) ?_
     refine sy (v := f0.pv) (y_assign rfl) ?_
     refine c_nil ?_
     refine n_then ?_
     refine c_seq ?_
     refine c_reg ?_
     refine sy (v := I ((0 : Nat) : Int)) (y_assign (v := I ((0 : Nat) : Int)) rfl) ?_
     refine c_nil ?_
     refine n_then ?_
     refine wp_block ?_
     refine c_loop (fun (kc : Nat) f79 w80 => f79 1 = Ad (bs g1) (0) ∧ f79 3 = Ad (bs g4) (0) ∧ f79 10 = I ((0 : Nat) : Int) ∧ f79 11 = f0.pv ∧ f79 12 = I ((kc : Nat) : Int) ∧ kc ≤ f0.path.length ∧ St w0 X [EK, [(g1, Rw 41 ([I (n), lv]))], G0, R0, E] w80) (fun kc => f0.path.length - kc) 0 ⟨s1_77, s3_77, s10_77, rfl, rfl, (Nat.zero_le _), H77⟩ ?_
     rintro kc f79 w80 ⟨s1_81, s3_81, s10_81, s11_81, s12_81, hf0_81, H81⟩
     refine c_seq ?_
     refine c_seq ?_
     refine c_reg ?_
     refine sy (v := I ((kc : Nat) : Int)) (y_move s12_81) ?_
     refine sy (v := f0.pv) (y_move s11_81) ?_
     refine sy (v := I ((f0.path.length : Nat) : Int)) (y_lenR Try.underlying72 (hr0.rd H81 3 rfl) rfl) ?_
     refine sy (v := .bool (decide (kc < f0.path.length))) (n_lss (a := kc) (b := f0.path.length) rfl rfl) ?_
     refine c_nil ?_
     refine n_then ?_
     refine c_if rfl (fun hc82 => ?_) (fun hc82 => ?_)
     ·
      refine wp_skip ?_
      refine n_then ?_
      refine c_seq ?_
      refine wp_block ?_
      refine c_seq ?_
      refine c_reg ?_
      refine sy (v := f0.pv) (y_move s11_81) ?_
      refine sy (v := I ((kc : Nat) : Int)) (y_move s12_81) ?_
      refine sy (v := Ad (sp (f0.pv)) (kc * 32)) (y_ixR (m := kc) Try.underlying72 sz26 (hr0.rd H81 3 rfl) (by decide) rfl rfl rfl (by omega)) ?_
      refine sy (v := .agg (((List.replicate f0.path.length (hcB (b8 ((0 + 1 : Nat) : Int)))).getD kc []).map B8).toArray) (y_loadA (us := ((List.replicate f0.path.length (hcB (b8 ((0 + 1 : Nat) : Int)))).getD kc []).map B8) ag26 sz26 ((List.length_map _).trans (getD_len (rph_h32 (hcB_len _)) (by omega))) rfl (fun j u hu => (hr0.rd H81 3 rfl).cell _ _ (flat_get (rph_h32 (hcB_len _)) (by omega) hu))) ?_
      refine sy (v := I ((0 : Nat) : Int)) (y_move s10_81) ?_
      refine sy (v := I ((0 + 1 : Nat) : Int)) (n_add (a := 0) (b := 1) rfl rfl (by omega)) ?_
      refine sy (v := B8 (b8 ((0 + 1 : Nat)))) (y_conv_I_8 Try.underlying3 Try.underlying5 rfl) ?_
      refine sy (v := .agg (((hcB (b8 ((0 + 1 : Nat) : Int)))).map B8).toArray) (y_build (pv := [(0, B8 (b8 ((0 + 1 : Nat) : Int)))]) (us := (hcB (b8 ((0 + 1 : Nat) : Int))).map B8) ⟨⟨rfl, rfl⟩, trivial⟩ (by kernel_rfl)) ?_
      refine sy (v := .bool (decide (((List.replicate f0.path.length (hcB (b8 ((0 + 1 : Nat) : Int)))).getD kc []) ≠ (hcB (b8 ((0 + 1 : Nat) : Int)))))) (y_neqArr (l1 := (List.replicate f0.path.length (hcB (b8 ((0 + 1 : Nat) : Int)))).getD kc []) (l2 := (hcB (b8 ((0 + 1 : Nat) : Int)))) Try.underlying26 sz5 sc5 Try.underlying5 gt26 (getD_len (rph_h32 (hcB_len _)) (by omega)) (hcB_len _) rfl rfl) ?_
      refine c_nil ?_
      refine n_then ?_
      have hq83 : ¬ (((List.replicate f0.path.length (hcB (b8 ((0 + 1 : Nat) : Int)))).getD kc []) ≠ (hcB (b8 ((0 + 1 : Nat) : Int)))) := (not_not_intro (rph_get (by omega)))
      refine c_f rfl (decide_eq_false hq83) ?_
      refine wp_skip ?_
      refine n_block (n_then ?_)
      refine c_reg ?_
      refine sy (v := I ((kc : Nat) : Int)) (y_move s12_81) ?_
      refine sy (v := I ((kc + 1 : Nat) : Int)) (n_add (a := kc) (b := 1) rfl rfl (by omega)) ?_
      refine sy (v := I ((kc + 1 : Nat) : Int)) (y_assign rfl) ?_
      refine c_nil ?_
      exact lp_next (kc + 1) ⟨s1_81, s3_81, s10_81, s11_81, rfl, (by omega), H81⟩ (by show _ < _; omega)
     ·
      refine wp_exit ?_
      refine x_then (x_then (x_hit (n_block (n_then ?_))))
      refine c_reg ?_
      refine sy (v := I ((0 : Nat) : Int)) (y_move s10_81) ?_
      refine sy (v := I ((0 + 1 : Nat) : Int)) (n_add (a := 0) (b := 1) rfl rfl (by omega)) ?_
      refine sy (v := I ((0 + 1 : Nat) : Int)) (y_assign rfl) ?_
      refine c_nil ?_
      exact lp_next (0 + 1) ⟨s1_81, s3_81, rfl, (by omega), H81⟩ (by show _ < _; omega)
   ·
    refine wp_exit ?_
    refine x_then (x_then (x_hit (n_then ?_)))
    refine c_seq ?_
    refine c_reg ?_
    refine sy (v := Ad (bs g1) (0 + 1)) (y_fld Try.underlying41 rfl rfl sz39 (by decide) s1_77) ?_
    refine sy (v := lv) (y_load sc39 rfl (H77.cell 1 rfl rfl)) ?_
    refine sy (v := lv) (y_assign rfl) ?_
    refine c_nil ?_
    refine n_then ?_
    refine c_seq ?_
    refine c_seq ?_
    refine c_reg ?_
    refine sy (v := I ((0 : Nat) : Int)) (y_assign (v := I ((0 : Nat) : Int)) rfl) ?_
    refine c_nil ?_
    refine n_then ?_
    refine wp_block ?_
    refine c_loop (fun (qd : Nat) f84 w85 => ∃ (ul : Value), ∃ (zl : List Value), ∃ (EL : Part), f84 1 = Ad (bs g1) (0) ∧ f84 3 = Ad (bs g4) (0) ∧ f84 13 = ul ∧ f84 14 = I ((qd : Nat) : Int) ∧ qd ≤ 9 ∧ TS 74 5 lv 1 (([f0] : List Lf).flatMap Lf.cs) ul (1 + qd) zl EL ∧ St w0 X [EK, [(g1, Rw 41 ([I (n), lv]))], G0, R0, EL] w85) (fun qd => 9 - qd) 0 ⟨_, _, _, s1_77, s3_77, rfl, rfl, (by omega), (TS.refl hE), H77⟩ ?_
    rintro qd f84 w85 ⟨ul, zl, EL, s1_86, s3_86, s13_86, s14_86, hqd, htl, H86⟩
    refine c_seq ?_
    refine c_seq ?_
    refine c_reg ?_
    refine sy (v := I ((qd : Nat) : Int)) (y_move s14_86) ?_
    refine sy (v := .bool (decide (qd < 9))) (n_lss (a := qd) (b := 9) rfl rfl) ?_
    refine c_nil ?_
    refine n_then ?_
    refine c_if rfl (fun hc87 => ?_) (fun hc87 => ?_)
    ·
     refine wp_skip ?_
     refine n_then ?_
     refine c_seq ?_
     refine wp_block ?_
     refine c_reg ?_
     refine sy (v := ul) (y_move s13_86) ?_
     refine sy (v := .agg ([I (-8), I ((0 : Nat) : Int), .string .empty, .slice none 0 0, .slice none 0 0]).toArray) (y_build (pv := [(0, I (-8))]) (us := [I (-8), I ((0 : Nat) : Int), .string (.empty), .slice none 0 0, .slice none 0 0]) ⟨⟨rfl, rfl⟩, trivial⟩ (by kernel_rfl)) ?_
     refine st (ow_buildSlice (pv := [(0, .agg ([I (-8), I ((0 : Nat) : Int), .string .empty, .slice none 0 0, .slice none 0 0]).toArray)]) (us := [I (-8), I ((0 : Nat) : Int), .string (.empty), .slice none 0 0, .slice none 0 0]) Try.underlying39 sz74 zr74 H86 ⟨⟨rfl, rfl⟩, trivial⟩ (by decide) (by kernel_rfl)) ?_
     rintro _ w89 ⟨g88, rfl, H90⟩
     have H91 : St w0 _ [_, _, _, _, _, _] w89 := H90.foc 5 rfl rfl
     refine st (ow_append_ts (m := 1) Try.underlying39 sz74 zr74 bt74 rfl htl H91 rfl rfl ((H91.rd (n := 1) (s := 5) (cap := 1) 1 rfl (by simp) ⟨Nat.le_refl _, by simp [maxLen]⟩).src Try.underlying39 (by simp [Value.oneCell'])) (by omega) (by omega)) ?_
     rintro v93 w94 ⟨E92, ho96, H95⟩
     refine sy (v := v93) (y_assign rfl) ?_
     refine c_nil ?_
     refine n_block (n_then ?_)
     refine c_reg ?_
     refine sy (v := I ((qd : Nat) : Int)) (y_move s14_86) ?_
     refine sy (v := I ((qd + 1 : Nat) : Int)) (n_add (a := qd) (b := 1) rfl rfl (by omega)) ?_
     refine sy (v := I ((qd + 1 : Nat) : Int)) (y_assign rfl) ?_
     refine c_nil ?_
     have H97 : St w0 _ [_, _, _, _, _, _] w94 := H95.foc 5 rfl rfl
     have H98 : St w0 _ [_, _, _, _, _, _] w94 := H97.foc 5 rfl rfl
     have H99 : St w0 _ [_, _, _, _, _, _] w94 := H98.foc 5 rfl rfl
     have H100 : St w0 _ [_, _, _, _, _, _] w94 := H99.foc 5 rfl rfl
     have H101 : St w0 _ [_, _, _, _, _] w94 := H100.take 5 rfl
     exact lp_next (qd + 1) ⟨v93, _, E92, s1_86, s3_86, rfl, rfl, (by omega), ho96, H101⟩ (by show _ < _; omega)
    ·
     obtain rfl : qd = 9 := by omega
     refine wp_exit ?_
     refine x_then (x_then (x_hit (n_then ?_)))
     refine c_seq ?_
     refine c_reg ?_
     refine sy (v := Ad (bs g4) (0)) (y_move s3_86) ?_
     obtain ⟨s104, s105, hr106⟩ := hBK.rd H86 0 rfl
     refine st (ow_call fn52 rfl (stays_bc g4 tot s104 s105 xs us _ hr106 (by omega)) ⟨rfl, trivial⟩) ?_
     rintro _ w102 ⟨rfl, hB103⟩
     have H107 : St w0 _ [_, _, _, _, _] w102 := H86.call hB103
     refine sy (v := .bool (true)) (y_assign rfl) ?_
     refine c_nil ?_
     refine n_then ?_
     refine c_seq ?_
     refine c_seq ?_
     have H108 : St w0 _ [_, _, _, _, _] w102 := H107.foc 4 rfl rfl
     obtain ⟨EX7, ER7, hox7, H109⟩ := OX.of htl H108
     refine c_reg ?_
     refine sy (v := I ((0 : Nat) : Int)) (y_assign (v := I ((0 : Nat) : Int)) rfl) ?_
     refine c_nil ?_
     refine n_then ?_
     refine wp_block ?_
     refine c_loop (fun (ie : Nat) f110 w111 => ∃ (E7 : Part), f110 1 = Ad (bs g1) (0) ∧ f110 15 = .bool (true) ∧ f110 16 = I ((ie : Nat) : Int) ∧ ie ≤ 1 ∧ OX 74 5 lv 1 E7 ∧ St w0 X [E7, ER7, EK, [(g1, Rw 41 ([I (n), lv]))], G0, R0] w111) (fun ie => 1 - ie) 0 ⟨_, s1_86, rfl, rfl, (by omega), hox7, H109⟩ ?_
     rintro ie f110 w111 ⟨E7, s1_112, s15_112, s16_112, hie, ho7, H112⟩
     refine c_seq ?_
     refine c_seq ?_
     obtain ⟨cs113, hrd114⟩ := OX.rd ho7 H112 0 rfl
     refine c_reg ?_
     refine sy (v := I ((ie : Nat) : Int)) (y_move s16_112) ?_
     refine sy (v := Ad (bs g1) (0 + 1)) (y_fld Try.underlying41 rfl rfl sz39 (by decide) s1_112) ?_
     refine sy (v := lv) (y_load sc39 rfl (H112.cell 3 rfl rfl)) ?_
     refine sy (v := I ((1 : Nat) : Int)) (y_lenR Try.underlying39 hrd114 rfl) ?_
     refine sy (v := .bool (decide (ie < 1))) (n_lss (a := ie) (b := 1) rfl rfl) ?_
     refine c_nil ?_
     refine n_then ?_
     refine c_if rfl (fun hc115 => ?_) (fun hc115 => ?_)
     ·
      refine wp_skip ?_
      refine n_then ?_
      refine c_seq ?_
      refine wp_block ?_
      obtain ⟨cs116, hrd117⟩ := OX.rd ho7 H112 0 rfl
      refine c_reg ?_
      refine sy (v := Ad (bs g1) (0 + 1)) (y_fld Try.underlying41 rfl rfl sz39 (by decide) s1_112) ?_
      refine sy (v := lv) (y_load sc39 rfl (H112.cell 3 rfl rfl)) ?_
      refine sy (v := I ((ie : Nat) : Int)) (y_move s16_112) ?_
      refine sy (v := .agg ([I (-9), I ((0 : Nat) : Int), .string .empty, .slice none 0 0, .slice none 0 0]).toArray) (y_build (pv := [(0, I (-9))]) (us := [I (-9), I ((0 : Nat) : Int), .string (.empty), .slice none 0 0, .slice none 0 0]) ⟨⟨rfl, rfl⟩, trivial⟩ (by kernel_rfl)) ?_
      refine sy (v := Ad (sp (lv)) (ie * 5)) (y_ixR (m := ie) Try.underlying39 sz74 hrd117 (by decide) rfl rfl rfl (by omega)) ?_
      refine s0 (ow_storeOX (i := ie) (us := [I (-9), I ((0 : Nat) : Int), .string (.empty), .slice none 0 0, .slice none 0 0]) ho7 H112 sz74 rfl (by omega) rfl rfl (by simp [Value.oneCell']) rfl (by omega)) ?_
      rintro _ w119 ⟨E118, ho121, H120⟩
      refine c_nil ?_
      refine n_block (n_then ?_)
      refine c_reg ?_
      refine sy (v := I ((ie : Nat) : Int)) (y_move s16_112) ?_
      refine sy (v := I ((ie + 1 : Nat) : Int)) (n_add (a := ie) (b := 1) rfl rfl (by omega)) ?_
      refine sy (v := I ((ie + 1 : Nat) : Int)) (y_assign rfl) ?_
      refine c_nil ?_
      exact lp_next (ie + 1) ⟨E118, s1_112, s15_112, rfl, (by omega), ho121, H120⟩ (by show _ < _; omega)
     ·
      refine wp_exit ?_
      refine x_then (x_then (x_hit (n_then ?_)))
      refine c_seq ?_
      refine c_reg ?_
      refine sy (v := .bool (true)) (y_move s15_112) ?_
      refine sy (v := .bool (true)) (y_assign rfl) ?_
      refine c_nil ?_
      refine n_then ?_
      refine wp_ret ?_
      refine e_r1 Try.results48 (rv_t rfl) ?_
      exact ⟨_, rfl, rfl, H112.take 0 rfl⟩

set_option maxHeartbeats 8000000 in
set_option maxRecDepth 20000 in
theorem spoil2_c (X : List Nat) (w0 w : World) (n : Int) (lv : Value) (f0 f1 : Lf) (E Ev0 Ep0 Ev1 Ep1 : Part) (H : St w0 X [Ev0, Ep0, Ev1, Ep1, E] w) (hE : OS 74 5 lv 2 (([f0, f1] : List Lf).flatMap Lf.cs) E) (hv0 : OS 5 1 f0.cell.v f0.cell.c.l.length (f0.cell.c.l.map B8) Ev0) (hp0 : OS 26 32 f0.pv f0.path.length (f0.path.flatten.map B8) Ep0) (hh0 : H32 f0.path) (hb0 : f0.cell.c.l.length ≤ 1048576) (hn0 : f0.path.length ≤ 1099511627776) (hv1 : OS 5 1 f1.cell.v f1.cell.c.l.length (f1.cell.c.l.map B8) Ev1) (hp1 : OS 26 32 f1.pv f1.path.length (f1.path.flatten.map B8) Ep1) (hh1 : H32 f1.path) (hb1 : f1.cell.c.l.length ≤ 1048576) (hn1 : f1.path.length ≤ 1099511627776) :
    Calls Try.prog 48 (([.agg ([I n, lv]).toArray] : List Value).toArray) w (fun e w' => ∃ v, e = .returned v ∧ v = .bool true ∧ St w0 X [] w') := by
 refine calls_mk Try.func48 rfl 128 Try.ntmps48 rfl ?_
 have H0 : St w0 X [Ev0, Ep0, Ev1, Ep1, E] w := H
 refine c_seq ?_
 refine c_reg ?_
 refine st (ow_box (l := [I (n), lv]) H0 rfl rfl) ?_
 rintro _ w2 ⟨g1, rfl, H3⟩
 refine sy (v := .bool (false)) (y_assign (v := .bool (false)) rfl) ?_
 refine c_nil ?_
 refine n_then ?_
 refine c_seq ?_
 refine c_reg ?_
 refine sy (v := .agg ([.slice none 0 0, .slice none 0 0, I ((0 : Nat) : Int), .bool false]).toArray) (y_build (parts := []) (pv := []) (us := [.slice none 0 0, .slice none 0 0, I ((0 : Nat) : Int), .bool (false)]) trivial (by kernel_rfl)) ?_
 refine st (ow_box (l := [.slice none 0 0, .slice none 0 0, I ((0 : Nat) : Int), .bool (false)]) H3 rfl rfl) ?_
 rintro _ w5 ⟨g4, rfl, H6⟩
 refine sy (v := Ad (bs g4) (0)) (y_assign rfl) ?_
 refine c_nil ?_
 refine n_then ?_
 refine c_seq ?_
 refine c_seq ?_
 refine c_reg ?_
 refine sy (v := I ((0 : Nat) : Int)) (y_assign (v := I ((0 : Nat) : Int)) rfl) ?_
 refine c_nil ?_
 refine n_then ?_
 refine wp_block ?_
 refine c_loop (fun (i : Nat) f7 w8 => ∃ (tot : Nat), ∃ (xs : List Value), ∃ (us : List Value), ∃ (EK : Part), ∃ (G0 : Part), ∃ (Q0 : Part), ∃ (G1 : Part), ∃ (Q1 : Part), f7 1 = Ad (bs g1) (0) ∧ f7 3 = Ad (bs g4) (0) ∧ f7 4 = I ((i : Nat) : Int) ∧ i ≤ 2 ∧ BookA g4 tot xs us EK ∧ xs.length = i ∧ tot ≤ i * 1048576 ∧ (if 0 < i then G0 = [] else OS 5 1 f0.cell.v f0.cell.c.l.length (f0.cell.c.l.map B8) G0) ∧ OS 26 32 f0.pv f0.path.length ((if 0 < i then (List.replicate f0.path.length (hcB (b8 ((0 + 1 : Nat) : Int)))) else f0.path).flatten.map B8) Q0 ∧ (if 1 < i then G1 = [] else OS 5 1 f1.cell.v f1.cell.c.l.length (f1.cell.c.l.map B8) G1) ∧ OS 26 32 f1.pv f1.path.length ((if 1 < i then (List.replicate f1.path.length (hcB (b8 ((1 + 1 : Nat) : Int)))) else f1.path).flatten.map B8) Q1 ∧ St w0 X [EK, [(g1, Rw 41 ([I (n), lv]))], G0, Q0, G1, Q1, E] w8) (fun i => 2 - i) 0 ⟨0, [], [], [(g4, Rw 71 [.slice none 0 0, .slice none 0 0, I ((0 : Nat) : Int), .bool false])], Ev0, Ep0, Ev1, Ep1, rfl, rfl, rfl, (by omega), (booka_new g4), rfl, (by omega), hv0, hp0, hv1, hp1, H6⟩ ?_
 rintro i f7 w8 ⟨tot, xs, us, EK, G0, Q0, G1, Q1, s1_9, s3_9, s4_9, hi, hBK, hxl, htot, hV0, hQ0, hV1, hQ1, H9⟩
 refine c_seq ?_
 refine c_seq ?_
 refine c_reg ?_
 refine sy (v := I ((i : Nat) : Int)) (y_move s4_9) ?_
 refine sy (v := Ad (bs g1) (0 + 1)) (y_fld Try.underlying41 rfl rfl sz39 (by decide) s1_9) ?_
 refine sy (v := lv) (y_load sc39 rfl (H9.cell 1 rfl rfl)) ?_
 refine sy (v := I ((2 : Nat) : Int)) (y_lenR Try.underlying39 (hE.rd H9 6 rfl) rfl) ?_
 refine sy (v := .bool (decide (i < 2))) (n_lss (a := i) (b := 2) rfl rfl) ?_
 refine c_nil ?_
 refine n_then ?_
 refine c_if rfl (fun hc10 => ?_) (fun hc10 => ?_)
 ·
  obtain rfl | rfl : i = 0 ∨ i = 1 := by omega
  ·
   have hvx : OS 5 1 f0.cell.v f0.cell.c.l.length (f0.cell.c.l.map B8) G0 := hV0
   have hpx : OS 26 32 f0.pv f0.path.length (f0.path.flatten.map B8) Q0 := hQ0
   have hbx := hb0
   refine wp_skip ?_
   refine n_then ?_
   refine c_seq ?_
   refine wp_block ?_
   refine c_seq ?_
   refine c_reg ?_
   refine sy (v := Ad (bs g4) (0)) (y_move s3_9) ?_
   refine sy (v := Ad (bs g1) (0 + 1)) (y_fld Try.underlying41 rfl rfl sz39 (by decide) s1_9) ?_
   refine sy (v := lv) (y_load sc39 rfl (H9.cell 1 rfl rfl)) ?_
   refine sy (v := I ((0 : Nat) : Int)) (y_move s4_9) ?_
   refine sy (v := Ad (sp (lv)) (0 * 5)) (y_ixR (m := 0) Try.underlying39 sz74 (hE.rd H9 6 rfl) (by decide) rfl rfl rfl (by omega)) ?_
   refine sy (v := Ad (sp (lv)) ((0 * 5) + 1)) (y_fld Try.underlying74 rfl rfl sz48 (by decide) rfl) ?_
   refine sy (v := Ad (sp (lv)) (((0 * 5) + 1) + 2)) (y_fld Try.underlying48 rfl rfl sz23 (by decide) rfl) ?_
   refine sy (v := f0.cell.v) (y_load sc23 rfl ((hE.rd H9 6 rfl).cell _ _ (show (([f0, f1] : List Lf).flatMap Lf.cs)[3]? = _ from rfl))) ?_
   have H11 : St w0 _ [_, _, _, _, _, _, _] w8 := H9.foc 6 rfl rfl
   have H12 : St w0 _ [_, _, _, _, _, _, _] w8 := H11.foc 6 rfl rfl
   have H13 : St w0 _ [_, _, _, _, _, _, _] w8 := H12.foc 6 rfl rfl
   have H14 : St w0 _ [_, _, _, _, _, _, _] w8 := H13.foc 6 rfl rfl
   have H15 : St w0 _ [_, _, _, _, _, _, _] w8 := H14.foc 5 rfl rfl
   have H16 : St w0 _ [_, _, _, _, _, _, _] w8 := H15.foc 5 rfl rfl
   have H17 : St w0 _ [_, _, _, _, _, _, _] w8 := H16.foc 6 rfl rfl
   obtain ⟨H18, hd19⟩ := H17.join
   refine st (ow_call fn51 rfl (add_c g4 tot xs us EK G0 (f0.cell.v) f0.cell.c.l _ hBK hvx hd19 (fun p hp => H18.own _ List.mem_cons_self p hp) (by first | omega | (simp only [List.length_nil]; omega)) (by omega)) ⟨rfl, rfl, trivial⟩) ?_
   rintro _ w22 ⟨rfl, u20, EB21, hB24, H23⟩
   have H25 : St w0 _ [_, _, _, _, _, _] w22 := H18.appE H23
   refine c_nil ?_
   refine n_then ?_
   refine c_seq ?_
   refine c_reg ?_
   refine sy (v := Ad (bs g1) (0 + 1)) (y_fld Try.underlying41 rfl rfl sz39 (by decide) s1_9) ?_
   refine sy (v := lv) (y_load sc39 rfl (H25.cell 1 rfl rfl)) ?_
   refine sy (v := I ((0 : Nat) : Int)) (y_move s4_9) ?_
   refine sy (v := Ad (sp (lv)) (0 * 5)) (y_ixR (m := 0) Try.underlying39 sz74 (hE.rd H25 5 rfl) (by decide) rfl rfl rfl (by omega)) ?_
   refine sy (v := Ad (sp (lv)) ((0 * 5) + 4)) (y_fld Try.underlying74 rfl rfl sz72 (by decide) rfl) ?_
   refine sy (v := f0.pv) (y_load sc72 rfl ((hE.rd H25 5 rfl).cell _ _ (show (([f0, f1] : List Lf).flatMap Lf.cs)[4]? = _ from rfl))) ?_
   refine sy (v := f0.pv) (y_assign rfl) ?_
   refine c_nil ?_
   refine n_then ?_
   refine c_seq ?_
   refine c_reg ?_
   refine sy (v := I ((0 : Nat) : Int)) (y_assign (v := I ((0 : Nat) : Int)) rfl) ?_
   refine c_nil ?_
   refine n_then ?_
   refine wp_block ?_
   refine c_loop (fun (k : Nat) f26 w27 => ∃ (EP : Part), f26 1 = Ad (bs g1) (0) ∧ f26 3 = Ad (bs g4) (0) ∧ f26 4 = I ((0 : Nat) : Int) ∧ f26 5 = f0.pv ∧ f26 6 = I ((k : Nat) : Int) ∧ k ≤ f0.path.length ∧ OS 26 32 f0.pv f0.path.length ((fkh (hcB (b8 ((0 + 1 : Nat) : Int))) k f0.path).flatten.map B8) EP ∧ St w0 X [EB21, [(g1, Rw 41 ([I (n), lv]))], EP, G1, Q1, E] w27) (fun k => f0.path.length - k) 0 ⟨_, s1_9, s3_9, s4_9, rfl, rfl, (Nat.zero_le _), hpx, H25⟩ ?_
   rintro k f26 w27 ⟨EP, s1_28, s3_28, s4_28, s5_28, s6_28, hk, hoK, H28⟩
   have hfl : (fkh (hcB (b8 ((0 + 1 : Nat) : Int))) k f0.path).length = f0.path.length := fkh_len (by omega)
   refine c_seq ?_
   refine c_seq ?_
   refine c_reg ?_
   refine sy (v := I ((k : Nat) : Int)) (y_move s6_28) ?_
   refine sy (v := f0.pv) (y_move s5_28) ?_
   refine sy (v := I ((f0.path.length : Nat) : Int)) (y_lenR Try.underlying72 (hoK.rd H28 2 rfl) rfl) ?_
   refine sy (v := .bool (decide (k < f0.path.length))) (n_lss (a := k) (b := f0.path.length) rfl rfl) ?_
   refine c_nil ?_
   refine n_then ?_
   refine c_if rfl (fun hc29 => ?_) (fun hc29 => ?_)
   ·
    refine wp_skip ?_
    refine n_then ?_
    refine c_seq ?_
    refine wp_block ?_
    refine c_reg ?_
    refine sy (v := f0.pv) (y_move s5_28) ?_
    refine sy (v := I ((k : Nat) : Int)) (y_move s6_28) ?_
    refine sy (v := I ((0 : Nat) : Int)) (y_move s4_28) ?_
    refine sy (v := I ((0 + 1 : Nat) : Int)) (n_add (a := 0) (b := 1) rfl rfl (by omega)) ?_
    refine sy (v := B8 (b8 ((0 + 1 : Nat)))) (y_conv_I_8 Try.underlying3 Try.underlying5 rfl) ?_
    refine sy (v := .agg (((hcB (b8 ((0 + 1 : Nat) : Int)))).map B8).toArray) (y_build (pv := [(0, B8 (b8 ((0 + 1 : Nat) : Int)))]) (us := (hcB (b8 ((0 + 1 : Nat) : Int))).map B8) ⟨⟨rfl, rfl⟩, trivial⟩ (by kernel_rfl)) ?_
    refine sy (v := Ad (sp (f0.pv)) (k * 32)) (y_ixR (m := k) Try.underlying72 sz26 (hoK.rd H28 2 rfl) (by decide) rfl rfl rfl (by omega)) ?_
    have H34 : St w0 _ [_, _, _, _, _, _] w27 := H28.foc 2 rfl rfl
    refine s0 (ow_storeOSH (i := k) (hs := (fkh (hcB (b8 ((0 + 1 : Nat) : Int))) k f0.path)) (by rw [hfl]; exact hoK) (fkh_h32 (hcB_len _) hh0) H34 sz26 (hcB_len _) rfl rfl rfl (by omega)) ?_
    rintro _ w31 ⟨E30, ho33', H32⟩
    have ho33 : OS 26 32 f0.pv f0.path.length ((fkh (hcB (b8 ((0 + 1 : Nat) : Int))) (k + 1) f0.path).flatten.map B8) E30 := by have h := ho33'; rw [fkh_step (by omega), fkh_len (by omega)] at h; exact h
    refine c_nil ?_
    refine n_block (n_then ?_)
    refine c_reg ?_
    refine sy (v := I ((k : Nat) : Int)) (y_move s6_28) ?_
    refine sy (v := I ((k + 1 : Nat) : Int)) (n_add (a := k) (b := 1) rfl rfl (by omega)) ?_
    refine sy (v := I ((k + 1 : Nat) : Int)) (y_assign rfl) ?_
    refine c_nil ?_
    have H35 : St w0 _ [_, _, _, _, _, _] w31 := H32.foc 5 rfl rfl
    have H36 : St w0 _ [_, _, _, _, _, _] w31 := H35.foc 5 rfl rfl
    have H37 : St w0 _ [_, _, _, _, _, _] w31 := H36.foc 5 rfl rfl
    have H38 : St w0 _ [_, _, _, _, _, _] w31 := H37.foc 3 rfl rfl
    have H39 : St w0 _ [_, _, _, _, _, _] w31 := H38.foc 5 rfl rfl
    have H40 : St w0 _ [_, _, _, _, _, _] w31 := H39.foc 5 rfl rfl
    exact lp_next (k + 1) ⟨E30, s1_28, s3_28, s4_28, s5_28, rfl, (by omega), ho33, H40⟩ (by show _ < _; omega)
   ·
    obtain rfl : k = f0.path.length := by omega
    have hQE : OS 26 32 f0.pv f0.path.length ((List.replicate f0.path.length (hcB (b8 ((0 + 1 : Nat) : Int)))).flatten.map B8) EP := by rw [fkh_end] at hoK; exact hoK
    refine wp_exit ?_
    refine x_then (x_then (x_hit (n_block (n_then ?_))))
    refine c_reg ?_
    refine sy (v := I ((0 : Nat) : Int)) (y_move s4_28) ?_
    refine sy (v := I ((0 + 1 : Nat) : Int)) (n_add (a := 0) (b := 1) rfl rfl (by omega)) ?_
    refine sy (v := I ((0 + 1 : Nat) : Int)) (y_assign rfl) ?_
    refine c_nil ?_
    have H41 : St w0 _ [_, _, _, _, _, _, _] w27 := H28.nilp
    have H42 : St w0 _ [_, _, _, _, _, _, _] w27 := H41.foc 6 rfl rfl
    have H43 : St w0 _ [_, _, _, _, _, _, _] w27 := H42.foc 6 rfl rfl
    have H44 : St w0 _ [_, _, _, _, _, _, _] w27 := H43.foc 6 rfl rfl
    have H45 : St w0 _ [_, _, _, _, _, _, _] w27 := H44.foc 6 rfl rfl
    have H46 : St w0 _ [_, _, _, _, _, _, _] w27 := H45.foc 4 rfl rfl
    have H47 : St w0 _ [_, _, _, _, _, _, _] w27 := H46.foc 6 rfl rfl
    have H48 : St w0 _ [_, _, _, _, _, _, _] w27 := H47.foc 6 rfl rfl
    exact lp_next (0 + 1) ⟨(tot + f0.cell.c.l.length), (xs ++ [f0.cell.v]), (us ++ [u20]), EB21, [], EP, G1, Q1, s1_28, s3_28, rfl, (by omega), hB24, (by rw [List.length_append, List.length_singleton]; omega), (by omega), rfl, hQE, hV1, hQ1, H48⟩ (by show _ < _; omega)
  ·
   have hvx : OS 5 1 f1.cell.v f1.cell.c.l.length (f1.cell.c.l.map B8) G1 := hV1
   have hpx : OS 26 32 f1.pv f1.path.length (f1.path.flatten.map B8) Q1 := hQ1
   have hbx := hb1
   refine wp_skip ?_
   refine n_then ?_
   refine c_seq ?_
   refine wp_block ?_
   refine c_seq ?_
   refine c_reg ?_
   refine sy (v := Ad (bs g4) (0)) (y_move s3_9) ?_
   refine sy (v := Ad (bs g1) (0 + 1)) (y_fld Try.underlying41 rfl rfl sz39 (by decide) s1_9) ?_
   refine sy (v := lv) (y_load sc39 rfl (H9.cell 1 rfl rfl)) ?_
   refine sy (v := I ((1 : Nat) : Int)) (y_move s4_9) ?_
   refine sy (v := Ad (sp (lv)) (1 * 5)) (y_ixR (m := 1) Try.underlying39 sz74 (hE.rd H9 6 rfl) (by decide) rfl rfl rfl (by omega)) ?_
   refine sy (v := Ad (sp (lv)) ((1 * 5) + 1)) (y_fld Try.underlying74 rfl rfl sz48 (by decide) rfl) ?_
   refine sy (v := Ad (sp (lv)) (((1 * 5) + 1) + 2)) (y_fld Try.underlying48 rfl rfl sz23 (by decide) rfl) ?_
   refine sy (v := f1.cell.v) (y_load sc23 rfl ((hE.rd H9 6 rfl).cell _ _ (show (([f0, f1] : List Lf).flatMap Lf.cs)[8]? = _ from rfl))) ?_
   have H49 : St w0 _ [_, _, _, _, _, _, _] w8 := H9.foc 6 rfl rfl
   have H50 : St w0 _ [_, _, _, _, _, _, _] w8 := H49.foc 6 rfl rfl
   have H51 : St w0 _ [_, _, _, _, _, _, _] w8 := H50.foc 5 rfl rfl
   have H52 : St w0 _ [_, _, _, _, _, _, _] w8 := H51.foc 5 rfl rfl
   have H53 : St w0 _ [_, _, _, _, _, _, _] w8 := H52.foc 5 rfl rfl
   have H54 : St w0 _ [_, _, _, _, _, _, _] w8 := H53.foc 5 rfl rfl
   have H55 : St w0 _ [_, _, _, _, _, _, _] w8 := H54.foc 6 rfl rfl
   obtain ⟨H56, hd57⟩ := H55.join
   refine st (ow_call fn51 rfl (add_c g4 tot xs us EK G1 (f1.cell.v) f1.cell.c.l _ hBK hvx hd57 (fun p hp => H56.own _ List.mem_cons_self p hp) (by first | omega | (simp only [List.length_nil]; omega)) (by omega)) ⟨rfl, rfl, trivial⟩) ?_
   rintro _ w60 ⟨rfl, u58, EB59, hB62, H61⟩
   have H63 : St w0 _ [_, _, _, _, _, _] w60 := H56.appE H61
   refine c_nil ?_
   refine n_then ?_
   refine c_seq ?_
   refine c_reg ?_
   refine sy (v := Ad (bs g1) (0 + 1)) (y_fld Try.underlying41 rfl rfl sz39 (by decide) s1_9) ?_
   refine sy (v := lv) (y_load sc39 rfl (H63.cell 1 rfl rfl)) ?_
   refine sy (v := I ((1 : Nat) : Int)) (y_move s4_9) ?_
   refine sy (v := Ad (sp (lv)) (1 * 5)) (y_ixR (m := 1) Try.underlying39 sz74 (hE.rd H63 5 rfl) (by decide) rfl rfl rfl (by omega)) ?_
   refine sy (v := Ad (sp (lv)) ((1 * 5) + 4)) (y_fld Try.underlying74 rfl rfl sz72 (by decide) rfl) ?_
   refine sy (v := f1.pv) (y_load sc72 rfl ((hE.rd H63 5 rfl).cell _ _ (show (([f0, f1] : List Lf).flatMap Lf.cs)[9]? = _ from rfl))) ?_
   refine sy (v := f1.pv) (y_assign rfl) ?_
   refine c_nil ?_
   refine n_then ?_
   refine c_seq ?_
   refine c_reg ?_
   refine sy (v := I ((0 : Nat) : Int)) (y_assign (v := I ((0 : Nat) : Int)) rfl) ?_
   refine c_nil ?_
   refine n_then ?_
   refine wp_block ?_
   refine c_loop (fun (k : Nat) f64 w65 => ∃ (EP : Part), f64 1 = Ad (bs g1) (0) ∧ f64 3 = Ad (bs g4) (0) ∧ f64 4 = I ((1 : Nat) : Int) ∧ f64 5 = f1.pv ∧ f64 6 = I ((k : Nat) : Int) ∧ k ≤ f1.path.length ∧ OS 26 32 f1.pv f1.path.length ((fkh (hcB (b8 ((1 + 1 : Nat) : Int))) k f1.path).flatten.map B8) EP ∧ St w0 X [EB59, [(g1, Rw 41 ([I (n), lv]))], G0, Q0, EP, E] w65) (fun k => f1.path.length - k) 0 ⟨_, s1_9, s3_9, s4_9, rfl, rfl, (Nat.zero_le _), hpx, H63⟩ ?_
   rintro k f64 w65 ⟨EP, s1_66, s3_66, s4_66, s5_66, s6_66, hk, hoK, H66⟩
   have hfl : (fkh (hcB (b8 ((1 + 1 : Nat) : Int))) k f1.path).length = f1.path.length := fkh_len (by omega)
   refine c_seq ?_
   refine c_seq ?_
   refine c_reg ?_
   refine sy (v := I ((k : Nat) : Int)) (y_move s6_66) ?_
   refine sy (v := f1.pv) (y_move s5_66) ?_
   refine sy (v := I ((f1.path.length : Nat) : Int)) (y_lenR Try.underlying72 (hoK.rd H66 4 rfl) rfl) ?_
   refine sy (v := .bool (decide (k < f1.path.length))) (n_lss (a := k) (b := f1.path.length) rfl rfl) ?_
   refine c_nil ?_
   refine n_then ?_
   refine c_if rfl (fun hc67 => ?_) (fun hc67 => ?_)
   ·
    refine wp_skip ?_
    refine n_then ?_
    refine c_seq ?_
    refine wp_block ?_
    refine c_reg ?_
    refine sy (v := f1.pv) (y_move s5_66) ?_
    refine sy (v := I ((k : Nat) : Int)) (y_move s6_66) ?_
    refine sy (v := I ((1 : Nat) : Int)) (y_move s4_66) ?_
    refine sy (v := I ((1 + 1 : Nat) : Int)) (n_add (a := 1) (b := 1) rfl rfl (by omega)) ?_
    refine sy (v := B8 (b8 ((1 + 1 : Nat)))) (y_conv_I_8 Try.underlying3 Try.underlying5 rfl) ?_
    refine sy (v := .agg (((hcB (b8 ((1 + 1 : Nat) : Int)))).map B8).toArray) (y_build (pv := [(0, B8 (b8 ((1 + 1 : Nat) : Int)))]) (us := (hcB (b8 ((1 + 1 : Nat) : Int))).map B8) ⟨⟨rfl, rfl⟩, trivial⟩ (by kernel_rfl)) ?_
    refine sy (v := Ad (sp (f1.pv)) (k * 32)) (y_ixR (m := k) Try.underlying72 sz26 (hoK.rd H66 4 rfl) (by decide) rfl rfl rfl (by omega)) ?_
    have H72 : St w0 _ [_, _, _, _, _, _] w65 := H66.foc 4 rfl rfl
    refine s0 (ow_storeOSH (i := k) (hs := (fkh (hcB (b8 ((1 + 1 : Nat) : Int))) k f1.path)) (by rw [hfl]; exact hoK) (fkh_h32 (hcB_len _) hh1) H72 sz26 (hcB_len _) rfl rfl rfl (by omega)) ?_
    rintro _ w69 ⟨E68, ho71', H70⟩
    have ho71 : OS 26 32 f1.pv f1.path.length ((fkh (hcB (b8 ((1 + 1 : Nat) : Int))) (k + 1) f1.path).flatten.map B8) E68 := by have h := ho71'; rw [fkh_step (by omega), fkh_len (by omega)] at h; exact h
    refine c_nil ?_
    refine n_block (n_then ?_)
    refine c_reg ?_
    refine sy (v := I ((k : Nat) : Int)) (y_move s6_66) ?_
    refine sy (v := I ((k + 1 : Nat) : Int)) (n_add (a := k) (b := 1) rfl rfl (by omega)) ?_
    refine sy (v := I ((k + 1 : Nat) : Int)) (y_assign rfl) ?_
    refine c_nil ?_
    have H73 : St w0 _ [_, _, _, _, _, _] w69 := H70.foc 5 rfl rfl
    have H74 : St w0 _ [_, _, _, _, _, _] w69 := H73.foc 1 rfl rfl
    have H75 : St w0 _ [_, _, _, _, _, _] w69 := H74.foc 5 rfl rfl
    have H76 : St w0 _ [_, _, _, _, _, _] w69 := H75.foc 5 rfl rfl
    have H77 : St w0 _ [_, _, _, _, _, _] w69 := H76.foc 5 rfl rfl
    have H78 : St w0 _ [_, _, _, _, _, _] w69 := H77.foc 5 rfl rfl
    exact lp_next (k + 1) ⟨E68, s1_66, s3_66, s4_66, s5_66, rfl, (by omega), ho71, H78⟩ (by show _ < _; omega)
   ·
    obtain rfl : k = f1.path.length := by omega
    have hQE : OS 26 32 f1.pv f1.path.length ((List.replicate f1.path.length (hcB (b8 ((1 + 1 : Nat) : Int)))).flatten.map B8) EP := by rw [fkh_end] at hoK; exact hoK
    refine wp_exit ?_
    refine x_then (x_then (x_hit (n_block (n_then ?_))))
    refine c_reg ?_
    refine sy (v := I ((1 : Nat) : Int)) (y_move s4_66) ?_
    refine sy (v := I ((1 + 1 : Nat) : Int)) (n_add (a := 1) (b := 1) rfl rfl (by omega)) ?_
    refine sy (v := I ((1 + 1 : Nat) : Int)) (y_assign rfl) ?_
    refine c_nil ?_
    have H79 : St w0 _ [_, _, _, _, _, _, _] w65 := H66.nilp
    have H80 : St w0 _ [_, _, _, _, _, _, _] w65 := H79.foc 6 rfl rfl
    have H81 : St w0 _ [_, _, _, _, _, _, _] w65 := H80.foc 6 rfl rfl
    have H82 : St w0 _ [_, _, _, _, _, _, _] w65 := H81.foc 2 rfl rfl
    have H83 : St w0 _ [_, _, _, _, _, _, _] w65 := H82.foc 6 rfl rfl
    have H84 : St w0 _ [_, _, _, _, _, _, _] w65 := H83.foc 6 rfl rfl
    have H85 : St w0 _ [_, _, _, _, _, _, _] w65 := H84.foc 6 rfl rfl
    have H86 : St w0 _ [_, _, _, _, _, _, _] w65 := H85.foc 6 rfl rfl
    exact lp_next (1 + 1) ⟨(tot + f1.cell.c.l.length), (xs ++ [f1.cell.v]), (us ++ [u58]), EB59, G0, Q0, [], EP, s1_66, s3_66, rfl, (by omega), hB62, (by rw [List.length_append, List.length_singleton]; omega), (by omega), hV0, hQ0, rfl, hQE, H86⟩ (by show _ < _; omega)
 ·
  obtain rfl : i = 2 := by omega
  have hP0 : OS 26 32 f0.pv f0.path.length ((List.replicate f0.path.length (hcB (b8 ((0 + 1 : Nat) : Int)))).flatten.map B8) Q0 := hQ0
  have hP1 : OS 26 32 f1.pv f1.path.length ((List.replicate f1.path.length (hcB (b8 ((1 + 1 : Nat) : Int)))).flatten.map B8) Q1 := hQ1
  refine wp_exit ?_
  refine x_then (x_then (x_hit (n_then ?_)))
  refine c_seq ?_
  refine c_seq ?_
  refine c_reg ?_
  refine sy (v := I ((0 : Nat) : Int)) (y_assign (v := I ((0 : Nat) : Int)) rfl) ?_
  refine c_nil ?_
  refine n_then ?_
  refine wp_block ?_
  refine c_loop (fun (ib : Nat) f87 w88 => ∃ (R0 : Part), ∃ (R1 : Part), f87 1 = Ad (bs g1) (0) ∧ f87 3 = Ad (bs g4) (0) ∧ f87 7 = I ((ib : Nat) : Int) ∧ ib ≤ 2 ∧ OS 26 32 f0.pv f0.path.length ((List.replicate f0.path.length (hcB (b8 ((0 + 1 : Nat) : Int)))).flatten.map B8) R0 ∧ OS 26 32 f1.pv f1.path.length ((List.replicate f1.path.length (hcB (b8 ((1 + 1 : Nat) : Int)))).flatten.map B8) R1 ∧ St w0 X [EK, [(g1, Rw 41 ([I (n), lv]))], G0, R0, G1, R1, E] w88) (fun ib => 2 - ib) 0 ⟨_, _, s1_9, s3_9, rfl, (by omega), hP0, hP1, H9⟩ ?_
  rintro ib f87 w88 ⟨R0, R1, s1_89, s3_89, s7_89, hib, hr0, hr1, H89⟩
  refine c_seq ?_
  refine c_seq ?_
  refine c_reg ?_
  refine sy (v := I ((ib : Nat) : Int)) (y_move s7_89) ?_
  refine sy (v := Ad (bs g1) (0 + 1)) (y_fld Try.underlying41 rfl rfl sz39 (by decide) s1_89) ?_
  refine sy (v := lv) (y_load sc39 rfl (H89.cell 1 rfl rfl)) ?_
  refine sy (v := I ((2 : Nat) : Int)) (y_lenR Try.underlying39 (hE.rd H89 6 rfl) rfl) ?_
  refine sy (v := .bool (decide (ib < 2))) (n_lss (a := ib) (b := 2) rfl rfl) ?_
  refine c_nil ?_
  refine n_then ?_
  refine c_if rfl (fun hc90 => ?_) (fun hc90 => ?_)
  ·
   obtain rfl | rfl : ib = 0 ∨ ib = 1 := by omega
   ·
    have hrl : ((List.replicate f0.path.length (hcB (b8 ((0 + 1 : Nat) : Int))))).length = f0.path.length := List.length_replicate (n := f0.path.length) (a := (hcB (b8 ((0 + 1 : Nat) : Int))))
    refine wp_skip ?_
    refine n_then ?_
    refine c_seq ?_
    refine wp_block ?_
    refine c_seq ?_
    refine c_reg ?_
    refine sy (v := Ad (bs g1) (0 + 1)) (y_fld Try.underlying41 rfl rfl sz39 (by decide) s1_89) ?_
    refine sy (v := lv) (y_load sc39 rfl (H89.cell 1 rfl rfl)) ?_
    refine sy (v := I ((0 : Nat) : Int)) (y_move s7_89) ?_
    refine sy (v := Ad (sp (lv)) (0 * 5)) (y_ixR (m := 0) Try.underlying39 sz74 (hE.rd H89 6 rfl) (by decide) rfl rfl rfl (by omega)) ?_
    refine sy (v := Ad (sp (lv)) ((0 * 5) + 4)) (y_fld Try.underlying74 rfl rfl sz72 (by decide) rfl) ?_
    refine sy (v := f0.pv) (y_load sc72 rfl ((hE.rd H89 6 rfl).cell _ _ (show (([f0, f1] : List Lf).flatMap Lf.cs)[4]? = _ from rfl))) ?_
    refine sy (v := f0.pv) (y_assign rfl) ?_
    refine c_nil ?_
    refine n_then ?_
    refine c_seq ?_
    refine c_reg ?_
    refine sy (v := I ((0 : Nat) : Int)) (y_assign (v := I ((0 : Nat) : Int)) rfl) ?_
    refine c_nil ?_
    refine n_then ?_
    refine wp_block ?_
    refine c_loop (fun (q : Nat) f91 w92 => ∃ (uv : Value), ∃ (zs : List Value), ∃ (EZ : Part), f91 1 = Ad (bs g1) (0) ∧ f91 3 = Ad (bs g4) (0) ∧ f91 7 = I ((0 : Nat) : Int) ∧ f91 8 = uv ∧ f91 9 = I ((q : Nat) : Int) ∧ q ≤ 20 ∧ TS 26 32 f0.pv f0.path.length ((List.replicate f0.path.length (hcB (b8 ((0 + 1 : Nat) : Int)))).flatten.map B8) uv (f0.path.length + q) zs EZ ∧ St w0 X [EK, [(g1, Rw 41 ([I (n), lv]))], G0, EZ, G1, R1, E] w92) (fun q => 20 - q) 0 ⟨_, _, _, s1_89, s3_89, s7_89, rfl, rfl, (by omega), (TS.refl hr0), H89⟩ ?_
    rintro q f91 w92 ⟨uv, zs, EZ, s1_93, s3_93, s7_93, s8_93, s9_93, hq, hts, H93⟩
    refine c_seq ?_
    refine c_seq ?_
    refine c_reg ?_
    refine sy (v := I ((q : Nat) : Int)) (y_move s9_93) ?_
    refine sy (v := .bool (decide (q < 20))) (n_lss (a := q) (b := 20) rfl rfl) ?_
    refine c_nil ?_
    refine n_then ?_
    refine c_if rfl (fun hc94 => ?_) (fun hc94 => ?_)
    ·
     refine wp_skip ?_
     refine n_then ?_
     refine c_seq ?_
     refine wp_block ?_
     refine c_reg ?_
     refine sy (v := uv) (y_move s8_93) ?_
     refine sy (v := .agg (((hcB 238)).map B8).toArray) (y_build (pv := [(0, B8 (238))]) (us := (hcB (238)).map B8) ⟨⟨rfl, rfl⟩, trivial⟩ (by kernel_rfl)) ?_
     refine st (ow_lit1 (h := (hcB (238))) Try.underlying72 sz26 zr26 H93 rfl (hcB_len _)) ?_
     rintro _ w96 ⟨g95, rfl, H97⟩
     have hh98 : H32 [(hcB (238))] := hh_one (hcB_len _)
     have H99 : St w0 _ [_, _, _, _, _, _, _, _] w96 := H97.foc 4 rfl rfl
     refine st (ow_append_ts (m := 1) Try.underlying72 sz26 zr26 bt26 rfl hts H99 rfl rfl ((rd_hblk (n := 1) H99 1 rfl hh98 rfl (by unfold maxLen; omega)).src Try.underlying72 (map_one (F := B8) (fun _ => rfl) _)) (by omega) (by omega)) ?_
     rintro v101 w102 ⟨E100, ho104, H103⟩
     refine sy (v := v101) (y_assign rfl) ?_
     refine c_nil ?_
     refine n_block (n_then ?_)
     refine c_reg ?_
     refine sy (v := I ((q : Nat) : Int)) (y_move s9_93) ?_
     refine sy (v := I ((q + 1 : Nat) : Int)) (n_add (a := q) (b := 1) rfl rfl (by omega)) ?_
     refine sy (v := I ((q + 1 : Nat) : Int)) (y_assign rfl) ?_
     refine c_nil ?_
     have H105 : St w0 _ [_, _, _, _, _, _, _, _] w102 := H103.foc 7 rfl rfl
     have H106 : St w0 _ [_, _, _, _, _, _, _, _] w102 := H105.foc 7 rfl rfl
     have H107 : St w0 _ [_, _, _, _, _, _, _, _] w102 := H106.foc 7 rfl rfl
     have H108 : St w0 _ [_, _, _, _, _, _, _, _] w102 := H107.foc 3 rfl rfl
     have H109 : St w0 _ [_, _, _, _, _, _, _, _] w102 := H108.foc 7 rfl rfl
     have H110 : St w0 _ [_, _, _, _, _, _, _, _] w102 := H109.foc 7 rfl rfl
     have H111 : St w0 _ [_, _, _, _, _, _, _, _] w102 := H110.foc 7 rfl rfl
     have H112 : St w0 _ [_, _, _, _, _, _, _] w102 := H111.take 7 rfl
     exact lp_next (q + 1) ⟨v101, _, E100, s1_93, s3_93, s7_93, rfl, rfl, (by omega), ho104, H112⟩ (by show _ < _; omega)
    ·
     obtain rfl : q = 20 := by omega
     refine wp_exit ?_
     refine x_then (x_then (x_hit (n_block (n_then ?_))))
     refine c_reg ?_
     refine sy (v := I ((0 : Nat) : Int)) (y_move s7_93) ?_
     refine sy (v := I ((0 + 1 : Nat) : Int)) (n_add (a := 0) (b := 1) rfl rfl (by omega)) ?_
     refine sy (v := I ((0 + 1 : Nat) : Int)) (y_assign rfl) ?_
     refine c_nil ?_
     have H113 : St w0 _ [_, _, _, _, _, _, _] w92 := H93.foc 3 rfl rfl
     obtain ⟨EX, ER, hox, H114⟩ := ts_x hts H113
     have H115 : St w0 _ [_, _, _, _, _, _, _, _] w92 := H114.foc 7 rfl rfl
     have H116 : St w0 _ [_, _, _, _, _, _, _, _] w92 := H115.foc 7 rfl rfl
     have H117 : St w0 _ [_, _, _, _, _, _, _, _] w92 := H116.foc 7 rfl rfl
     have H118 : St w0 _ [_, _, _, _, _, _, _, _] w92 := H117.foc 3 rfl rfl
     have H119 : St w0 _ [_, _, _, _, _, _, _, _] w92 := H118.foc 7 rfl rfl
     have H120 : St w0 _ [_, _, _, _, _, _, _, _] w92 := H119.foc 7 rfl rfl
     have H121 : St w0 _ [_, _, _, _, _, _, _, _] w92 := H120.foc 7 rfl rfl
     have H122 : St w0 _ [_, _, _, _, _, _, _] w92 := H121.take 7 rfl
     exact lp_next (0 + 1) ⟨EX, R1, s1_93, s3_93, rfl, (by omega), hox, hr1, H122⟩ (by show _ < _; omega)
   ·
    have hrl : ((List.replicate f1.path.length (hcB (b8 ((1 + 1 : Nat) : Int))))).length = f1.path.length := List.length_replicate (n := f1.path.length) (a := (hcB (b8 ((1 + 1 : Nat) : Int))))
    refine wp_skip ?_
    refine n_then ?_
    refine c_seq ?_
    refine wp_block ?_
    refine c_seq ?_
    refine c_reg ?_
    refine sy (v := Ad (bs g1) (0 + 1)) (y_fld Try.underlying41 rfl rfl sz39 (by decide) s1_89) ?_
    refine sy (v := lv) (y_load sc39 rfl (H89.cell 1 rfl rfl)) ?_
    refine sy (v := I ((1 : Nat) : Int)) (y_move s7_89) ?_
    refine sy (v := Ad (sp (lv)) (1 * 5)) (y_ixR (m := 1) Try.underlying39 sz74 (hE.rd H89 6 rfl) (by decide) rfl rfl rfl (by omega)) ?_
    refine sy (v := Ad (sp (lv)) ((1 * 5) + 4)) (y_fld Try.underlying74 rfl rfl sz72 (by decide) rfl) ?_
    refine sy (v := f1.pv) (y_load sc72 rfl ((hE.rd H89 6 rfl).cell _ _ (show (([f0, f1] : List Lf).flatMap Lf.cs)[9]? = _ from rfl))) ?_
    refine sy (v := f1.pv) (y_assign rfl) ?_
    refine c_nil ?_
    refine n_then ?_
    refine c_seq ?_
    refine c_reg ?_
    refine sy (v := I ((0 : Nat) : Int)) (y_assign (v := I ((0 : Nat) : Int)) rfl) ?_
    refine c_nil ?_
    refine n_then ?_
    refine wp_block ?_
    refine c_loop (fun (q : Nat) f123 w124 => ∃ (uv : Value), ∃ (zs : List Value), ∃ (EZ : Part), f123 1 = Ad (bs g1) (0) ∧ f123 3 = Ad (bs g4) (0) ∧ f123 7 = I ((1 : Nat) : Int) ∧ f123 8 = uv ∧ f123 9 = I ((q : Nat) : Int) ∧ q ≤ 20 ∧ TS 26 32 f1.pv f1.path.length ((List.replicate f1.path.length (hcB (b8 ((1 + 1 : Nat) : Int)))).flatten.map B8) uv (f1.path.length + q) zs EZ ∧ St w0 X [EK, [(g1, Rw 41 ([I (n), lv]))], G0, R0, G1, EZ, E] w124) (fun q => 20 - q) 0 ⟨_, _, _, s1_89, s3_89, s7_89, rfl, rfl, (by omega), (TS.refl hr1), H89⟩ ?_
    rintro q f123 w124 ⟨uv, zs, EZ, s1_125, s3_125, s7_125, s8_125, s9_125, hq, hts, H125⟩
    refine c_seq ?_
    refine c_seq ?_
    refine c_reg ?_
    refine sy (v := I ((q : Nat) : Int)) (y_move s9_125) ?_
    refine sy (v := .bool (decide (q < 20))) (n_lss (a := q) (b := 20) rfl rfl) ?_
    refine c_nil ?_
    refine n_then ?_
    refine c_if rfl (fun hc126 => ?_) (fun hc126 => ?_)
    ·
     refine wp_skip ?_
     refine n_then ?_
     refine c_seq ?_
     refine wp_block ?_
     refine c_reg ?_
     refine sy (v := uv) (y_move s8_125) ?_
     refine sy (v := .agg (((hcB 238)).map B8).toArray) (y_build (pv := [(0, B8 (238))]) (us := (hcB (238)).map B8) ⟨⟨rfl, rfl⟩, trivial⟩ (by kernel_rfl)) ?_
     refine st (ow_lit1 (h := (hcB (238))) Try.underlying72 sz26 zr26 H125 rfl (hcB_len _)) ?_
     rintro _ w128 ⟨g127, rfl, H129⟩
     have hh130 : H32 [(hcB (238))] := hh_one (hcB_len _)
     have H131 : St w0 _ [_, _, _, _, _, _, _, _] w128 := H129.foc 6 rfl rfl
     refine st (ow_append_ts (m := 1) Try.underlying72 sz26 zr26 bt26 rfl hts H131 rfl rfl ((rd_hblk (n := 1) H131 1 rfl hh130 rfl (by unfold maxLen; omega)).src Try.underlying72 (map_one (F := B8) (fun _ => rfl) _)) (by omega) (by omega)) ?_
     rintro v133 w134 ⟨E132, ho136, H135⟩
     refine sy (v := v133) (y_assign rfl) ?_
     refine c_nil ?_
     refine n_block (n_then ?_)
     refine c_reg ?_
     refine sy (v := I ((q : Nat) : Int)) (y_move s9_125) ?_
     refine sy (v := I ((q + 1 : Nat) : Int)) (n_add (a := q) (b := 1) rfl rfl (by omega)) ?_
     refine sy (v := I ((q + 1 : Nat) : Int)) (y_assign rfl) ?_
     refine c_nil ?_
     have H137 : St w0 _ [_, _, _, _, _, _, _, _] w134 := H135.foc 7 rfl rfl
     have H138 : St w0 _ [_, _, _, _, _, _, _, _] w134 := H137.foc 1 rfl rfl
     have H139 : St w0 _ [_, _, _, _, _, _, _, _] w134 := H138.foc 7 rfl rfl
     have H140 : St w0 _ [_, _, _, _, _, _, _, _] w134 := H139.foc 7 rfl rfl
     have H141 : St w0 _ [_, _, _, _, _, _, _, _] w134 := H140.foc 7 rfl rfl
     have H142 : St w0 _ [_, _, _, _, _, _, _, _] w134 := H141.foc 7 rfl rfl
     have H143 : St w0 _ [_, _, _, _, _, _, _, _] w134 := H142.foc 7 rfl rfl
     have H144 : St w0 _ [_, _, _, _, _, _, _] w134 := H143.take 7 rfl
     exact lp_next (q + 1) ⟨v133, _, E132, s1_125, s3_125, s7_125, rfl, rfl, (by omega), ho136, H144⟩ (by show _ < _; omega)
    ·
     obtain rfl : q = 20 := by omega
     refine wp_exit ?_
     refine x_then (x_then (x_hit (n_block (n_then ?_))))
     refine c_reg ?_
     refine sy (v := I ((1 : Nat) : Int)) (y_move s7_125) ?_
     refine sy (v := I ((1 + 1 : Nat) : Int)) (n_add (a := 1) (b := 1) rfl rfl (by omega)) ?_
     refine sy (v := I ((1 + 1 : Nat) : Int)) (y_assign rfl) ?_
     refine c_nil ?_
     have H145 : St w0 _ [_, _, _, _, _, _, _] w124 := H125.foc 5 rfl rfl
     obtain ⟨EX, ER, hox, H146⟩ := ts_x hts H145
     have H147 : St w0 _ [_, _, _, _, _, _, _, _] w124 := H146.foc 7 rfl rfl
     have H148 : St w0 _ [_, _, _, _, _, _, _, _] w124 := H147.foc 1 rfl rfl
     have H149 : St w0 _ [_, _, _, _, _, _, _, _] w124 := H148.foc 7 rfl rfl
     have H150 : St w0 _ [_, _, _, _, _, _, _, _] w124 := H149.foc 7 rfl rfl
     have H151 : St w0 _ [_, _, _, _, _, _, _, _] w124 := H150.foc 7 rfl rfl
     have H152 : St w0 _ [_, _, _, _, _, _, _, _] w124 := H151.foc 7 rfl rfl
     have H153 : St w0 _ [_, _, _, _, _, _, _, _] w124 := H152.foc 7 rfl rfl
     have H154 : St w0 _ [_, _, _, _, _, _, _] w124 := H153.take 7 rfl
     exact lp_next (1 + 1) ⟨R0, EX, s1_125, s3_125, rfl, (by omega), hr0, hox, H154⟩ (by show _ < _; omega)
  ·
   refine wp_exit ?_
   refine x_then (x_then (x_hit (n_then ?_)))
   refine c_seq ?_
   refine c_seq ?_
   refine c_reg ?_
   refine sy (v := I ((0 : Nat) : Int)) (y_assign (v := I ((0 : Nat) : Int)) rfl) ?_
   refine c_nil ?_
   refine n_then ?_
   refine wp_block ?_
   refine c_loop (fun (ic : Nat) f155 w156 => f155 1 = Ad (bs g1) (0) ∧ f155 3 = Ad (bs g4) (0) ∧ f155 10 = I ((ic : Nat) : Int) ∧ ic ≤ 2 ∧ St w0 X [EK, [(g1, Rw 41 ([I (n), lv]))], G0, R0, G1, R1, E] w156) (fun ic => 2 - ic) 0 ⟨s1_89, s3_89, rfl, (by omega), H89⟩ ?_
   rintro ic f155 w156 ⟨s1_157, s3_157, s10_157, hf0_157, H157⟩
   refine c_seq ?_
   refine c_seq ?_
   refine c_reg ?_
   refine sy (v := I ((ic : Nat) : Int)) (y_move s10_157) ?_
   refine sy (v := Ad (bs g1) (0 + 1)) (y_fld Try.underlying41 rfl rfl sz39 (by decide) s1_157) ?_
   refine sy (v := lv) (y_load sc39 rfl (H157.cell 1 rfl rfl)) ?_
   refine sy (v := I ((2 : Nat) : Int)) (y_lenR Try.underlying39 (hE.rd H157 6 rfl) rfl) ?_
   refine sy (v := .bool (decide (ic < 2))) (n_lss (a := ic) (b := 2) rfl rfl) ?_
   refine c_nil ?_
   refine n_then ?_
   refine c_if rfl (fun hc158 => ?_) (fun hc158 => ?_)
   ·
    obtain rfl | rfl : ic = 0 ∨ ic = 1 := by omega
    ·
     have hrl : ((List.replicate f0.path.length (hcB (b8 ((0 + 1 : Nat) : Int))))).length = f0.path.length := List.length_replicate (n := f0.path.length) (a := (hcB (b8 ((0 + 1 : Nat) : Int))))
     refine wp_skip ?_
     refine n_then ?_
     refine c_seq ?_
     refine wp_block ?_
     refine c_seq ?_
     refine c_reg ?_
     refine sy (v := Ad (bs g1) (0 + 1)) (y_fld Try.underlying41 rfl rfl sz39 (by decide) s1_157) ?_
     refine sy (v := lv) (y_load sc39 rfl (H157.cell 1 rfl rfl)) ?_
     refine sy (v := I ((0 : Nat) : Int)) (y_move s10_157) ?_
     refine sy (v := Ad (sp (lv)) (0 * 5)) (y_ixR (m := 0) Try.underlying39 sz74 (hE.rd H157 6 rfl) (by decide) rfl rfl rfl (by omega)) ?_
     refine sy (v := Ad (sp (lv)) ((0 * 5) + 4)) (y_fld Try.underlying74 rfl rfl sz72 (by decide) rfl) ?_
     refine sy (v := f0.pv) (y_load sc72 rfl ((hE.rd H157 6 rfl).cell _ _ (show (([f0, f1] : List Lf).flatMap Lf.cs)[4]? = _ from rfl))) ?_
     refine sy (v := f0.pv) (y_assign rfl) ?_
     refine c_nil ?_
     refine n_then ?_
     refine c_seq ?_
     refine c_reg ?_
     refine sy (v := I ((0 : Nat) : Int)) (y_assign (v := I ((0 : Nat) : Int)) rfl) ?_
     refine c_nil ?_
     refine n_then ?_
     refine wp_block ?_
     refine c_loop (fun (kc : Nat) f159 w160 => f159 1 = Ad (bs g1) (0) ∧ f159 3 = Ad (bs g4) (0) ∧ f159 10 = I ((0 : Nat) : Int) ∧ f159 11 = f0.pv ∧ f159 12 = I ((kc : Nat) : Int) ∧ kc ≤ f0.path.length ∧ St w0 X [EK, [(g1, Rw 41 ([I (n), lv]))], G0, R0, G1, R1, E] w160) (fun kc => f0.path.length - kc) 0 ⟨s1_157, s3_157, s10_157, rfl, rfl, (Nat.zero_le _), H157⟩ ?_
     rintro kc f159 w160 ⟨s1_161, s3_161, s10_161, s11_161, s12_161, hf0_161, H161⟩
     refine c_seq ?_
     refine c_seq ?_
     refine c_reg ?_
     refine sy (v := I ((kc : Nat) : Int)) (y_move s12_161) ?_
     refine sy (v := f0.pv) (y_move s11_161) ?_
     refine sy (v := I ((f0.path.length : Nat) : Int)) (y_lenR Try.underlying72 (hr0.rd H161 3 rfl) rfl) ?_
     refine sy (v := .bool (decide (kc < f0.path.length))) (n_lss (a := kc) (b := f0.path.length) rfl rfl) ?_
     refine c_nil ?_
     refine n_then ?_
     refine c_if rfl (fun hc162 => ?_) (fun hc162 => ?_)
     ·
      refine wp_skip ?_
      refine n_then ?_
      refine c_seq ?_
      refine wp_block ?_
      refine c_seq ?_
      refine c_reg ?_
      refine sy (v := f0.pv) (y_move s11_161) ?_
      refine sy (v := I ((kc : Nat) : Int)) (y_move s12_161) ?_
      refine sy (v := Ad (sp (f0.pv)) (kc * 32)) (y_ixR (m := kc) Try.underlying72 sz26 (hr0.rd H161 3 rfl) (by decide) rfl rfl rfl (by omega)) ?_
      refine sy (v := .agg (((List.replicate f0.path.length (hcB (b8 ((0 + 1 : Nat) : Int)))).getD kc []).map B8).toArray) (y_loadA (us := ((List.replicate f0.path.length (hcB (b8 ((0 + 1 : Nat) : Int)))).getD kc []).map B8) ag26 sz26 ((List.length_map _).trans (getD_len (rph_h32 (hcB_len _)) (by omega))) rfl (fun j u hu => (hr0.rd H161 3 rfl).cell _ _ (flat_get (rph_h32 (hcB_len _)) (by omega) hu))) ?_
      refine sy (v := I ((0 : Nat) : Int)) (y_move s10_161) ?_
      refine sy (v := I ((0 + 1 : Nat) : Int)) (n_add (a := 0) (b := 1) rfl rfl (by omega)) ?_
      refine sy (v := B8 (b8 ((0 + 1 : Nat)))) (y_conv_I_8 Try.underlying3 Try.underlying5 rfl) ?_
      refine sy (v := .agg (((hcB (b8 ((0 + 1 : Nat) : Int)))).map B8).toArray) (y_build (pv := [(0, B8 (b8 ((0 + 1 : Nat) : Int)))]) (us := (hcB (b8 ((0 + 1 : Nat) : Int))).map B8) ⟨⟨rfl, rfl⟩, trivial⟩ (by kernel_rfl)) ?_
      refine sy (v := .bool (decide (((List.replicate f0.path.length (hcB (b8 ((0 + 1 : Nat) : Int)))).getD kc []) ≠ (hcB (b8 ((0 + 1 : Nat) : Int)))))) (y_neqArr (l1 := (List.replicate f0.path.length (hcB (b8 ((0 + 1 : Nat) : Int)))).getD kc []) (l2 := (hcB (b8 ((0 + 1 : Nat) : Int)))) Try.underlying26 sz5 sc5 Try.underlying5 gt26 (getD_len (rph_h32 (hcB_len _)) (by omega)) (hcB_len _) rfl rfl) ?_
      refine c_nil ?_
      refine n_then ?_
      have hq163 : ¬ (((List.replicate f0.path.length (hcB (b8 ((0 + 1 : Nat) : Int)))).getD kc []) ≠ (hcB (b8 ((0 + 1 : Nat) : Int)))) := (not_not_intro (rph_get (by omega)))
      refine c_f rfl (decide_eq_false hq163) ?_
      refine wp_skip ?_
      refine n_block (n_then ?_)
      refine c_reg ?_
      refine sy (v := I ((kc : Nat) : Int)) (y_move s12_161) ?_
      refine sy (v := I ((kc + 1 : Nat) : Int)) (n_add (a := kc) (b := 1) rfl rfl (by omega)) ?_
      refine sy (v := I ((kc + 1 : Nat) : Int)) (y_assign rfl) ?_
      refine c_nil ?_
      exact lp_next (kc + 1) ⟨s1_161, s3_161, s10_161, s11_161, rfl, (by omega), H161⟩ (by show _ < _; omega)
     ·
      refine wp_exit ?_
      refine x_then (x_then (x_hit (n_block (n_then ?_))))
      refine c_reg ?_
      refine sy (v := I ((0 : Nat) : Int)) (y_move s10_161) ?_
      refine sy (v := I ((0 + 1 : Nat) : Int)) (n_add (a := 0) (b := 1) rfl rfl (by omega)) ?_
      refine sy (v := I ((0 + 1 : Nat) : Int)) (y_assign rfl) ?_
      refine c_nil ?_
      exact lp_next (0 + 1) ⟨s1_161, s3_161, rfl, (by omega), H161⟩ (by show _ < _; omega)
    ·
     have hrl : ((List.replicate f1.path.length (hcB (b8 ((1 + 1 : Nat) : Int))))).length = f1.path.length := List.length_replicate (n := f1.path.length) (a := (hcB (b8 ((1 + 1 : Nat) : Int))))
     refine wp_skip ?_
     refine n_then ?_
     refine c_seq ?_
     refine wp_block ?_
     refine c_seq ?_
     refine c_reg ?_
     refine sy (v := Ad (bs g1) (0 + 1)) (y_fld Try.underlying41 rfl rfl sz39 (by decide) s1_157) ?_
     refine sy (v := lv) (y_load sc39 rfl (H157.cell 1 rfl rfl)) ?_
     refine sy (v := I ((1 : Nat) : Int)) (y_move s10_157) ?_
     refine sy (v := Ad (sp (lv)) (1 * 5)) (y_ixR (m := 1) Try.underlying39 sz74 (hE.rd H157 6 rfl) (by decide) rfl rfl rfl (by omega)) ?_
     refine sy (v := Ad (sp (lv)) ((1 * 5) + 4)) (y_fld Try.underlying74 rfl rfl sz72 (by decide) rfl) ?_
     refine sy (v := f1.pv) (y_load sc72 rfl ((hE.rd H157 6 rfl).cell _ _ (show (([f0, f1] : List Lf).flatMap Lf.cs)[9]? = _ from rfl))) ?_
     refine sy (v := f1.pv) (y_assign rfl) ?_
     refine c_nil ?_
     refine n_then ?_
     refine c_seq ?_
     refine c_reg ?_
     refine sy (v := I ((0 : Nat) : Int)) (y_assign (v := I ((0 : Nat) : Int)) rfl) ?_
     refine c_nil ?_
     refine n_then ?_
     refine wp_block ?_
     refine c_loop (fun (kc : Nat) f164 w165 => f164 1 = Ad (bs g1) (0) ∧ f164 3 = Ad (bs g4) (0) ∧ f164 10 = I ((1 : Nat) : Int) ∧ f164 11 = f1.pv ∧ f164 12 = I ((kc : Nat) : Int) ∧ kc ≤ f1.path.length ∧ St w0 X [EK, [(g1, Rw 41 ([I (n), lv]))], G0, R0, G1, R1, E] w165) (fun kc => f1.path.length - kc) 0 ⟨s1_157, s3_157, s10_157, rfl, rfl, (Nat.zero_le _), H157⟩ ?_
     rintro kc f164 w165 ⟨s1_166, s3_166, s10_166, s11_166, s12_166, hf0_166, H166⟩
     refine c_seq ?_
     refine c_seq ?_
     refine c_reg ?_
     refine sy (v := I ((kc : Nat) : Int)) (y_move s12_166) ?_
     refine sy (v := f1.pv) (y_move s11_166) ?_
     refine sy (v := I ((f1.path.length : Nat) : Int)) (y_lenR Try.underlying72 (hr1.rd H166 5 rfl) rfl) ?_
     refine sy (v := .bool (decide (kc < f1.path.length))) (n_lss (a := kc) (b := f1.path.length) rfl rfl) ?_
     refine c_nil ?_
     refine n_then ?_
     refine c_if rfl (fun hc167 => ?_) (fun hc167 => ?_)
     ·
      refine wp_skip ?_
      refine n_then ?_
      refine c_seq ?_
      refine wp_block ?_
      refine c_seq ?_
      refine c_reg ?_
      refine sy (v := f1.pv) (y_move s11_166) ?_
      refine sy (v := I ((kc : Nat) : Int)) (y_move s12_166) ?_
      refine sy (v := Ad (sp (f1.pv)) (kc * 32)) (y_ixR (m := kc) Try.underlying72 sz26 (hr1.rd H166 5 rfl) (by decide) rfl rfl rfl (by omega)) ?_
      refine sy (v := .agg (((List.replicate f1.path.length (hcB (b8 ((1 + 1 : Nat) : Int)))).getD kc []).map B8).toArray) (y_loadA (us := ((List.replicate f1.path.length (hcB (b8 ((1 + 1 : Nat) : Int)))).getD kc []).map B8) ag26 sz26 ((List.length_map _).trans (getD_len (rph_h32 (hcB_len _)) (by omega))) rfl (fun j u hu => (hr1.rd H166 5 rfl).cell _ _ (flat_get (rph_h32 (hcB_len _)) (by omega) hu))) ?_
      refine sy (v := I ((1 : Nat) : Int)) (y_move s10_166) ?_
      refine sy (v := I ((1 + 1 : Nat) : Int)) (n_add (a := 1) (b := 1) rfl rfl (by omega)) ?_
      refine sy (v := B8 (b8 ((1 + 1 : Nat)))) (y_conv_I_8 Try.underlying3 Try.underlying5 rfl) ?_
      refine sy (v := .agg (((hcB (b8 ((1 + 1 : Nat) : Int)))).map B8).toArray) (y_build (pv := [(0, B8 (b8 ((1 + 1 : Nat) : Int)))]) (us := (hcB (b8 ((1 + 1 : Nat) : Int))).map B8) ⟨⟨rfl, rfl⟩, trivial⟩ (by kernel_rfl)) ?_
      refine sy (v := .bool (decide (((List.replicate f1.path.length (hcB (b8 ((1 + 1 : Nat) : Int)))).getD kc []) ≠ (hcB (b8 ((1 + 1 : Nat) : Int)))))) (y_neqArr (l1 := (List.replicate f1.path.length (hcB (b8 ((1 + 1 : Nat) : Int)))).getD kc []) (l2 := (hcB (b8 ((1 + 1 : Nat) : Int)))) Try.underlying26 sz5 sc5 Try.underlying5 gt26 (getD_len (rph_h32 (hcB_len _)) (by omega)) (hcB_len _) rfl rfl) ?_
      refine c_nil ?_
      refine n_then ?_
      have hq168 : ¬ (((List.replicate f1.path.length (hcB (b8 ((1 + 1 : Nat) : Int)))).getD kc []) ≠ (hcB (b8 ((1 + 1 : Nat) : Int)))) := (not_not_intro (rph_get (by omega)))
      refine c_f rfl (decide_eq_false hq168) ?_
      refine wp_skip ?_
      refine n_block (n_then ?_)
      refine c_reg ?_
      refine sy (v := I ((kc : Nat) : Int)) (y_move s12_166) ?_
      refine sy (v := I ((kc + 1 : Nat) : Int)) (n_add (a := kc) (b := 1) rfl rfl (by omega)) ?_
      refine sy (v := I ((kc + 1 : Nat) : Int)) (y_assign rfl) ?_
      refine c_nil ?_
      exact lp_next (kc + 1) ⟨s1_166, s3_166, s10_166, s11_166, rfl, (by omega), H166⟩ (by show _ < _; omega)
     ·
      refine wp_exit ?_
      refine x_then (x_then (x_hit (n_block (n_then ?_))))
      refine c_reg ?_
      refine sy (v := I ((1 : Nat) : Int)) (y_move s10_166) ?_
      refine sy (v := I ((1 + 1 : Nat) : Int)) (n_add (a := 1) (b := 1) rfl rfl (by omega)) ?_
      refine sy (v := I ((1 + 1 : Nat) : Int)) (y_assign rfl) ?_
      refine c_nil ?_
      exact lp_next (1 + 1) ⟨s1_166, s3_166, rfl, (by omega), H166⟩ (by show _ < _; omega)
   ·
    refine wp_exit ?_
    refine x_then (x_then (x_hit (n_then ?_)))
    refine c_seq ?_
    refine c_reg ?_
    refine sy (v := Ad (bs g1) (0 + 1)) (y_fld Try.underlying41 rfl rfl sz39 (by decide) s1_157) ?_
    refine sy (v := lv) (y_load sc39 rfl (H157.cell 1 rfl rfl)) ?_
    refine sy (v := lv) (y_assign rfl) ?_
    refine c_nil ?_
    refine n_then ?_
    refine c_seq ?_
    refine c_seq ?_
    refine c_reg ?_
    refine sy (v := I ((0 : Nat) : Int)) (y_assign (v := I ((0 : Nat) : Int)) rfl) ?_
    refine c_nil ?_
    refine n_then ?_
    refine wp_block ?_
    refine c_loop (fun (qd : Nat) f169 w170 => ∃ (ul : Value), ∃ (zl : List Value), ∃ (EL : Part), f169 1 = Ad (bs g1) (0) ∧ f169 3 = Ad (bs g4) (0) ∧ f169 13 = ul ∧ f169 14 = I ((qd : Nat) : Int) ∧ qd ≤ 9 ∧ TS 74 5 lv 2 (([f0, f1] : List Lf).flatMap Lf.cs) ul (2 + qd) zl EL ∧ St w0 X [EK, [(g1, Rw 41 ([I (n), lv]))], G0, R0, G1, R1, EL] w170) (fun qd => 9 - qd) 0 ⟨_, _, _, s1_157, s3_157, rfl, rfl, (by omega), (TS.refl hE), H157⟩ ?_
    rintro qd f169 w170 ⟨ul, zl, EL, s1_171, s3_171, s13_171, s14_171, hqd, htl, H171⟩
    refine c_seq ?_
    refine c_seq ?_
    refine c_reg ?_
    refine sy (v := I ((qd : Nat) : Int)) (y_move s14_171) ?_
    refine sy (v := .bool (decide (qd < 9))) (n_lss (a := qd) (b := 9) rfl rfl) ?_
    refine c_nil ?_
    refine n_then ?_
    refine c_if rfl (fun hc172 => ?_) (fun hc172 => ?_)
    ·
     refine wp_skip ?_
     refine n_then ?_
     refine c_seq ?_
     refine wp_block ?_
     refine c_reg ?_
     refine sy (v := ul) (y_move s13_171) ?_
     refine sy (v := .agg ([I (-8), I ((0 : Nat) : Int), .string .empty, .slice none 0 0, .slice none 0 0]).toArray) (y_build (pv := [(0, I (-8))]) (us := [I (-8), I ((0 : Nat) : Int), .string (.empty), .slice none 0 0, .slice none 0 0]) ⟨⟨rfl, rfl⟩, trivial⟩ (by kernel_rfl)) ?_
     refine st (ow_buildSlice (pv := [(0, .agg ([I (-8), I ((0 : Nat) : Int), .string .empty, .slice none 0 0, .slice none 0 0]).toArray)]) (us := [I (-8), I ((0 : Nat) : Int), .string (.empty), .slice none 0 0, .slice none 0 0]) Try.underlying39 sz74 zr74 H171 ⟨⟨rfl, rfl⟩, trivial⟩ (by decide) (by kernel_rfl)) ?_
     rintro _ w174 ⟨g173, rfl, H175⟩
     have H176 : St w0 _ [_, _, _, _, _, _, _, _] w174 := H175.foc 7 rfl rfl
     refine st (ow_append_ts (m := 1) Try.underlying39 sz74 zr74 bt74 rfl htl H176 rfl rfl ((H176.rd (n := 1) (s := 5) (cap := 1) 1 rfl (by simp) ⟨Nat.le_refl _, by simp [maxLen]⟩).src Try.underlying39 (by simp [Value.oneCell'])) (by omega) (by omega)) ?_
     rintro v178 w179 ⟨E177, ho181, H180⟩
     refine sy (v := v178) (y_assign rfl) ?_
     refine c_nil ?_
     refine n_block (n_then ?_)
     refine c_reg ?_
     refine sy (v := I ((qd : Nat) : Int)) (y_move s14_171) ?_
     refine sy (v := I ((qd + 1 : Nat) : Int)) (n_add (a := qd) (b := 1) rfl rfl (by omega)) ?_
     refine sy (v := I ((qd + 1 : Nat) : Int)) (y_assign rfl) ?_
     refine c_nil ?_
     have H182 : St w0 _ [_, _, _, _, _, _, _, _] w179 := H180.foc 7 rfl rfl
     have H183 : St w0 _ [_, _, _, _, _, _, _, _] w179 := H182.foc 7 rfl rfl
     have H184 : St w0 _ [_, _, _, _, _, _, _, _] w179 := H183.foc 7 rfl rfl
     have H185 : St w0 _ [_, _, _, _, _, _, _, _] w179 := H184.foc 7 rfl rfl
     have H186 : St w0 _ [_, _, _, _, _, _, _, _] w179 := H185.foc 7 rfl rfl
     have H187 : St w0 _ [_, _, _, _, _, _, _, _] w179 := H186.foc 7 rfl rfl
     have H188 : St w0 _ [_, _, _, _, _, _, _] w179 := H187.take 7 rfl
     exact lp_next (qd + 1) ⟨v178, _, E177, s1_171, s3_171, rfl, rfl, (by omega), ho181, H188⟩ (by show _ < _; omega)
    ·
     obtain rfl : qd = 9 := by omega
     refine wp_exit ?_
     refine x_then (x_then (x_hit (n_then ?_)))
     refine c_seq ?_
     refine c_reg ?_
     refine sy (v := Ad (bs g4) (0)) (y_move s3_171) ?_
     obtain ⟨s191, s192, hr193⟩ := hBK.rd H171 0 rfl
     refine st (ow_call fn52 rfl (stays_bc g4 tot s191 s192 xs us _ hr193 (by omega)) ⟨rfl, trivial⟩) ?_
     rintro _ w189 ⟨rfl, hB190⟩
     have H194 : St w0 _ [_, _, _, _, _, _, _] w189 := H171.call hB190
     refine sy (v := .bool (true)) (y_assign rfl) ?_
     refine c_nil ?_
     refine n_then ?_
     refine c_seq ?_
     refine c_seq ?_
     have H195 : St w0 _ [_, _, _, _, _, _, _] w189 := H194.foc 6 rfl rfl
     obtain ⟨EX7, ER7, hox7, H196⟩ := OX.of htl H195
     refine c_reg ?_
     refine sy (v := I ((0 : Nat) : Int)) (y_assign (v := I ((0 : Nat) : Int)) rfl) ?_
     refine c_nil ?_
     refine n_then ?_
     refine wp_block ?_
     refine c_loop (fun (ie : Nat) f197 w198 => ∃ (E7 : Part), f197 1 = Ad (bs g1) (0) ∧ f197 15 = .bool (true) ∧ f197 16 = I ((ie : Nat) : Int) ∧ ie ≤ 2 ∧ OX 74 5 lv 2 E7 ∧ St w0 X [E7, ER7, EK, [(g1, Rw 41 ([I (n), lv]))], G0, R0, G1, R1] w198) (fun ie => 2 - ie) 0 ⟨_, s1_171, rfl, rfl, (by omega), hox7, H196⟩ ?_
     rintro ie f197 w198 ⟨E7, s1_199, s15_199, s16_199, hie, ho7, H199⟩
     refine c_seq ?_
     refine c_seq ?_
     obtain ⟨cs200, hrd201⟩ := OX.rd ho7 H199 0 rfl
     refine c_reg ?_
     refine sy (v := I ((ie : Nat) : Int)) (y_move s16_199) ?_
     refine sy (v := Ad (bs g1) (0 + 1)) (y_fld Try.underlying41 rfl rfl sz39 (by decide) s1_199) ?_
     refine sy (v := lv) (y_load sc39 rfl (H199.cell 3 rfl rfl)) ?_
     refine sy (v := I ((2 : Nat) : Int)) (y_lenR Try.underlying39 hrd201 rfl) ?_
     refine sy (v := .bool (decide (ie < 2))) (n_lss (a := ie) (b := 2) rfl rfl) ?_
     refine c_nil ?_
     refine n_then ?_
     refine c_if rfl (fun hc202 => ?_) (fun hc202 => ?_)
     ·
      refine wp_skip ?_
      refine n_then ?_
      refine c_seq ?_
      refine wp_block ?_
      obtain ⟨cs203, hrd204⟩ := OX.rd ho7 H199 0 rfl
      refine c_reg ?_
      refine sy (v := Ad (bs g1) (0 + 1)) (y_fld Try.underlying41 rfl rfl sz39 (by decide) s1_199) ?_
      refine sy (v := lv) (y_load sc39 rfl (H199.cell 3 rfl rfl)) ?_
      refine sy (v := I ((ie : Nat) : Int)) (y_move s16_199) ?_
      refine sy (v := .agg ([I (-9), I ((0 : Nat) : Int), .string .empty, .slice none 0 0, .slice none 0 0]).toArray) (y_build (pv := [(0, I (-9))]) (us := [I (-9), I ((0 : Nat) : Int), .string (.empty), .slice none 0 0, .slice none 0 0]) ⟨⟨rfl, rfl⟩, trivial⟩ (by kernel_rfl)) ?_
      refine sy (v := Ad (sp (lv)) (ie * 5)) (y_ixR (m := ie) Try.underlying39 sz74 hrd204 (by decide) rfl rfl rfl (by omega)) ?_
      refine s0 (ow_storeOX (i := ie) (us := [I (-9), I ((0 : Nat) : Int), .string (.empty), .slice none 0 0, .slice none 0 0]) ho7 H199 sz74 rfl (by omega) rfl rfl (by simp [Value.oneCell']) rfl (by omega)) ?_
      rintro _ w206 ⟨E205, ho208, H207⟩
      refine c_nil ?_
      refine n_block (n_then ?_)
      refine c_reg ?_
      refine sy (v := I ((ie : Nat) : Int)) (y_move s16_199) ?_
      refine sy (v := I ((ie + 1 : Nat) : Int)) (n_add (a := ie) (b := 1) rfl rfl (by omega)) ?_
      refine sy (v := I ((ie + 1 : Nat) : Int)) (y_assign rfl) ?_
      refine c_nil ?_
      exact lp_next (ie + 1) ⟨E205, s1_199, s15_199, rfl, (by omega), ho208, H207⟩ (by show _ < _; omega)
     ·
      refine wp_exit ?_
      refine x_then (x_then (x_hit (n_then ?_)))
      refine c_seq ?_
      refine c_reg ?_
      refine sy (v := .bool (true)) (y_move s15_199) ?_
      refine sy (v := .bool (true)) (y_assign rfl) ?_
      refine c_nil ?_
      refine n_then ?_
      refine wp_ret ?_
      refine e_r1 Try.results48 (rv_t rfl) ?_
      exact ⟨_, rfl, rfl, H199.take 0 rfl⟩

theorem spoil_c (n : Int) (lv : Value) (ls : List Lf) (EB : Part) (w : World) (hP : LsP lv ls EB) (hown : ∀ p ∈ EB, w.heap[p.1]? = some p.2) (h2 : ls.length ≤ 2) (hb : ∀ f ∈ ls, f.cell.c.l.length ≤ 1048576) :
    Calls Try.prog 48 (([.agg ([I n, lv] : List Value).toArray] : List Value).toArray) w (fun e w' => ∃ v, e = .returned v ∧ v = .bool true ∧ St w (EB.map (·.1)) [] w') := by
  obtain ⟨E, F, rfl, hE, hF, hd, -⟩ := hP
  have H0 := (St.initE hown).split hd
  rcases ls with _ | ⟨f, _ | ⟨g, _ | ⟨h, t⟩⟩⟩
  · exact spoil0_c _ w w n lv E ((H0.foc 1 rfl rfl).take 1 rfl) hE
  · obtain ⟨F1, F2, rfl, ⟨Ev, Ep, rfl, q1, q2, q3, q4, q5, q6⟩, hF2, d1⟩ := hF
    have e3 : F2 = [] := hF2
    subst e3
    have H1 := (H0.subL.split q6).foc 1 rfl rfl
    exact spoil1_c _ w w n lv f E Ev Ep H1 hE q1 q2 q4 (hb f (by simp)) q5
  · obtain ⟨F1, F2, rfl, ⟨Ev, Ep, rfl, q1, q2, q3, q4, q5, q6⟩, ⟨F3, F4, rfl, ⟨Fv, Fp, rfl, p1, p2, p3, p4, p5, p6⟩, hF4, d2⟩, d1⟩ := hF
    have e5 : F4 = [] := hF4
    subst e5
    have H1 := ((H0.split d1).subL.split p6).foc 1 rfl rfl
    have H2 := ((H1.foc 2 rfl rfl).split q6).foc 1 rfl rfl
    exact spoil2_c _ w w n lv f g E Ev Ep Fv Fp H2 hE q1 q2 q4 (hb f (by simp)) q5 p1 p2 p4 (hb g (by simp)) p5
  · simp only [List.length_cons] at h2; omega

end Go.Proofs.Ytdcmbcjkdhdohaa
