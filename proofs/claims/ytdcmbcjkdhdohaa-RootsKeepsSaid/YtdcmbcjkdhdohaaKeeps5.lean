/- The walk of spoil. -/
import Derived.Test.YtdcmbcjkdhdohaaKeeps4
namespace Go.Proofs.Ytdcmbcjkdhdohaa
open Go Go.RowKit
set_option linter.unusedSimpArgs false
set_option linter.unusedVariables false
section
variable {P : Program} {w w0 : World} {X : List Nat} {L : List Part} {E : Part} {e s n i k : Nat} {v : Value} {cs us : List Value} {nn : Nat} {f : Nat → Value} {x y : Operand} {t ty : TypeId}
/-- A store of an element of s cells into an own slice. -/
theorem ow_storeOSA (ho : OS e s v n cs E) (H : St w0 X (E :: L) w) (hs : Sz P t s) (hl : us.length = s) (h0 : 0 < s) (hx : ev nn f x = Ad (sp v) k) (hy : ev nn f y = .agg us.toArray) (h1 : ∀ u ∈ us, u.oneCell' = true) (hk : k = i * s) (hi : i < n) :
    OW P nn f (.store t x y) ty w (fun _ w' => ∃ E', OS e s v n (cs.take (i * s) ++ us ++ cs.drop (i * s + s)) E' ∧ St w0 X (E' :: L) w') := by
  rcases ho with ⟨-, rfl, -⟩ | ⟨g, cap, cur, rfl, rfl, hn, hm, hcl, htk⟩
  · omega
  · have hin : i * s + s ≤ n * s := by rw [← Nat.succ_mul]; exact Nat.mul_le_mul_right _ hi
    have hnc : n * s ≤ cap * s := Nat.mul_le_mul_right _ hn
    refine (ow_storeA (k := k) H hs hl hx hy h1 (by omega)).mono fun _ w' h => ⟨_, .inr ⟨g, cap, _, rfl, rfl, hn, hm, ?_, ?_⟩, h⟩
    · simp only [List.length_append, List.length_take, List.length_drop]; omega
    · subst hk
      rw [← htk]
      have e1 : (cur.take (n * s)).take (i * s) = cur.take (i * s) := by rw [List.take_take, Nat.min_eq_left (by omega)]
      have e2 : (cur.take (n * s)).drop (i * s + s) = (cur.drop (i * s + s)).take (n * s - (i * s + s)) := by rw [List.drop_take]
      rw [e1, e2, List.take_append, List.length_append, List.length_take, hl, Nat.min_eq_left (by omega)]
      congr 1
      exact List.take_of_length_le (by rw [List.length_append, List.length_take]; omega)
/-- A store of a hash into an own slice of hashes. -/
theorem ow_storeOSH {hs : List (List UInt8)} {h : List UInt8} (ho : OS e 32 v hs.length (hs.flatten.map B8) E) (hh : H32 hs) (H : St w0 X (E :: L) w) (hz : Sz P t 32) (hl : h.length = 32) (hx : ev nn f x = Ad (sp v) k) (hy : ev nn f y = .agg (h.map B8).toArray) (hk : k = i * 32) (hi : i < hs.length) :
    OW P nn f (.store t x y) ty w (fun _ w' => ∃ E', OS e 32 v (hs.set i h).length ((hs.set i h).flatten.map B8) E' ∧ St w0 X (E' :: L) w') := by
  refine (ow_storeOSA ho H hz (by rw [List.length_map]; exact hl) (by omega) hx hy (map_one (F := B8) (fun _ => rfl) _) hk hi).mono fun _ w' ⟨E', h1, h2⟩ => ⟨E', ?_, h2⟩
  rw [flat_set hh hi] at h1
  rw [List.length_set]; exact h1
/-- A slice of ours, its cells forgotten. -/
def OX (e s : Nat) (v : Value) (n : Nat) (E : Part) : Prop := ∃ cs, OS e s v n cs E
theorem OX.of {m : Nat} {xv : Value} {ds : List Value} (h : TS e s xv m ds v n cs E) (H : St w0 X (E :: L) w) : ∃ Ex Er, OX e s xv m Ex ∧ St w0 X (Ex :: Er :: L) w := by
  obtain ⟨-, ⟨h1, -⟩ | ⟨Ex, Eu, rfl, h1, h2, hd⟩⟩ := h
  · exact ⟨E, [], ⟨_, h1⟩, H.nilp.foc 1 rfl rfl⟩
  · exact ⟨Ex, Eu, ⟨_, h1⟩, (H.split hd).foc 1 rfl rfl⟩
theorem ow_storeOX (ho : OX e s v n E) (H : St w0 X (E :: L) w) (hs : Sz P t s) (hl : us.length = s) (h0 : 0 < s) (hx : ev nn f x = Ad (sp v) k) (hy : ev nn f y = .agg us.toArray) (h1 : ∀ u ∈ us, u.oneCell' = true) (hk : k = i * s) (hi : i < n) :
    OW P nn f (.store t x y) ty w (fun _ w' => ∃ E', OX e s v n E' ∧ St w0 X (E' :: L) w') := by
  obtain ⟨cs, ho⟩ := ho
  exact (ow_storeOSA ho H hs hl h0 hx hy h1 hk hi).mono fun _ w' ⟨E', q1, q2⟩ => ⟨E', ⟨_, q1⟩, q2⟩
theorem OX.rd (h : OX e s v n E) (H : St w0 X L w) (i : Nat) (hi : L[i]? = some E) : ∃ cs, Rd [] w s v n cs := by
  obtain ⟨cs, h⟩ := h
  exact ⟨cs, h.rd H i hi⟩
end
/-- The hash of byte c ahead. -/
def hcB (c : UInt8) : List UInt8 := (List.replicate 32 0).set 0 c
theorem hcB_len (c : UInt8) : (hcB c).length = 32 := by unfold hcB; simp
/-- The first k hashes are h. -/
def fkh (h : List UInt8) (k : Nat) (hs : List (List UInt8)) : List (List UInt8) := List.replicate k h ++ hs.drop k
theorem fkh_len {h : List UInt8} {k : Nat} {hs : List (List UInt8)} (hk : k ≤ hs.length) : (fkh h k hs).length = hs.length := by simp [fkh]; omega
theorem fkh_step {h : List UInt8} {k : Nat} {hs : List (List UInt8)} (hk : k < hs.length) : (fkh h k hs).set k h = fkh h (k + 1) hs := by
  unfold fkh
  rw [List.set_append_right _ _ (by simp), List.length_replicate, Nat.sub_self, List.drop_eq_getElem_cons hk, List.set_cons_zero, List.replicate_succ', List.append_assoc]
  rfl
theorem fkh_h32 {h : List UInt8} {k : Nat} {hs : List (List UInt8)} (hl : h.length = 32) (hh : H32 hs) : H32 (fkh h k hs) := by
  intro q hq
  rcases List.mem_append.1 hq with hq | hq
  · rw [List.eq_of_mem_replicate hq]; exact hl
  · exact hh q (List.mem_of_mem_drop hq)
theorem fkh_end (h : List UInt8) (hs : List (List UInt8)) : fkh h hs.length hs = List.replicate hs.length h := by simp [fkh]
end Go.Proofs.Ytdcmbcjkdhdohaa
namespace Go.Proofs.Ytdcmbcjkdhdohaa
open Go Go.RowKit
set_option linter.unusedSimpArgs false
set_option linter.unusedVariables false
attribute [local irreducible] wpList wpP Code.wp

theorem ts_x {e s k n : Nat} {xv v : Value} {ds cs : List Value} {E : Part} {w w0 : World} {X : List Nat} {L : List Part} (h : TS e s xv k ds v n cs E) (H : St w0 X (E :: L) w) : ∃ Ex Er, OS e s xv k ds Ex ∧ St w0 X (Ex :: Er :: L) w := by
  obtain ⟨-, ⟨h1, -⟩ | ⟨Ex, Eu, rfl, h1, h2, hd⟩⟩ := h
  · exact ⟨E, [], h1, H.nilp.foc 1 rfl rfl⟩
  · exact ⟨Ex, Eu, h1, (H.split hd).foc 1 rfl rfl⟩
theorem rph_h32 {n : Nat} {h : List UInt8} (hl : h.length = 32) : H32 (List.replicate n h) := fun q hq => by rw [List.eq_of_mem_replicate hq]; exact hl
theorem rph_get {n k : Nat} {h : List UInt8} (hk : k < n) : (List.replicate n h).getD k [] = h := by rw [List.getD_eq_getElem?_getD, List.getElem?_replicate, if_pos hk]; rfl

attribute [local irreducible] leafH innerH topH rootH rootA sha checkA

set_option maxHeartbeats 8000000 in
set_option maxRecDepth 20000 in
theorem spoil0_c (X : List Nat) (w0 w : World) (n : Int) (lv : Value)  (E  : Part) (H : St w0 X [E] w) (hE : OS 74 5 lv 0 (([] : List Lf).flatMap Lf.cs) E)  :
    Calls Try.prog 48 (([.agg ([I n, lv]).toArray] : List Value).toArray) w (fun e w' => ∃ v, e = .returned v ∧ v = .bool true ∧ St w0 X [] w') := by
 refine calls_mk Try.func48 rfl 128 Try.ntmps48 rfl ?_
 have H0 : St w0 X [E] w := H
 refine c_seq ?_
 refine c_reg ?_
 refine st (ow_box (l := [I (n), lv]) H0 rfl rfl) ?_
 rintro _ w2 ⟨g1, rfl, H3⟩
 refine sy (v := .bool (false)) (y_assign (v := .bool (false)) rfl) ?_
 refine c_nil ?_
 refine n_then ?_
 refine c_seq ?_
 refine c_reg ?_
 refine sy (v := .agg ([.slice none 0 0, .slice none 0 0, I ((0 : Nat) : Int), .bool false]).toArray) (y_build (parts := []) (pv := []) (us := [.slice none 0 0, .slice none 0 0, I ((0 : Nat) : Int), .bool (false)]) trivial (by kernel_rfl)) ?_
 refine st (ow_box (l := [.slice none 0 0, .slice none 0 0, I ((0 : Nat) : Int), .bool (false)]) H3 rfl rfl) ?_
 rintro _ w5 ⟨g4, rfl, H6⟩
 refine sy (v := Ad (bs g4) (0)) (y_assign rfl) ?_
 refine c_nil ?_
 refine n_then ?_
 refine c_seq ?_
 refine c_seq ?_
 refine c_reg ?_
 refine sy (v := I ((0 : Nat) : Int)) (y_assign (v := I ((0 : Nat) : Int)) rfl) ?_
 refine c_nil ?_
 refine n_then ?_
 refine wp_block ?_
 refine c_loop (fun (i : Nat) f7 w8 => ∃ (tot : Nat), ∃ (xs : List Value), ∃ (us : List Value), ∃ (EK : Part), f7 1 = Ad (bs g1) (0) ∧ f7 3 = Ad (bs g4) (0) ∧ f7 4 = I ((i : Nat) : Int) ∧ i ≤ 0 ∧ BookA g4 tot xs us EK ∧ xs.length ≤ i ∧ tot ≤ i * 134217728 ∧ St w0 X [EK, [(g1, Rw 41 ([I (n), lv]))], E] w8) (fun i => 0 - i) 0 ⟨0, [], [], [(g4, Rw 71 [.slice none 0 0, .slice none 0 0, I ((0 : Nat) : Int), .bool false])], rfl, rfl, rfl, (by omega), (booka_new g4), (by simp), (by omega), H6⟩ ?_
 rintro i f7 w8 ⟨tot, xs, us, EK, s1_9, s3_9, s4_9, hi, hBK, hxl, htot, H9⟩
 refine c_seq ?_
 refine c_seq ?_
 refine c_reg ?_
 refine sy (v := I ((i : Nat) : Int)) (y_move s4_9) ?_
 refine sy (v := Ad (bs g1) (0 + 1)) (y_fld Try.underlying41 rfl rfl sz39 (by decide) s1_9) ?_
 refine sy (v := lv) (y_load sc39 rfl (H9.cell 1 rfl rfl)) ?_
 refine sy (v := I ((0 : Nat) : Int)) (y_lenR Try.underlying39 (hE.rd H9 2 rfl) rfl) ?_
 refine sy (v := .bool (decide (i < 0))) (n_lss (a := i) (b := 0) rfl rfl) ?_
 refine c_nil ?_
 refine n_then ?_
 have hq10 : ¬ (i < 0) := (by omega)
 refine c_f rfl (decide_eq_false hq10) ?_
 refine wp_exit ?_
 refine x_then (x_then (x_hit (n_then ?_)))
 refine c_seq ?_
 refine c_seq ?_
 refine c_reg ?_
 refine sy (v := I ((0 : Nat) : Int)) (y_assign (v := I ((0 : Nat) : Int)) rfl) ?_
 refine c_nil ?_
 refine n_then ?_
 refine wp_block ?_
 refine c_loop (fun (ib : Nat) f11 w12 => f11 1 = Ad (bs g1) (0) ∧ f11 3 = Ad (bs g4) (0) ∧ f11 7 = I ((ib : Nat) : Int) ∧ ib ≤ 0 ∧ St w0 X [EK, [(g1, Rw 41 ([I (n), lv]))], E] w12) (fun ib => 0 - ib) 0 ⟨s1_9, s3_9, rfl, (by omega), H9⟩ ?_
 rintro ib f11 w12 ⟨s1_13, s3_13, s7_13, hib, H13⟩
 refine c_seq ?_
 refine c_seq ?_
 refine c_reg ?_
 refine sy (v := I ((ib : Nat) : Int)) (y_move s7_13) ?_
 refine sy (v := Ad (bs g1) (0 + 1)) (y_fld Try.underlying41 rfl rfl sz39 (by decide) s1_13) ?_
 refine sy (v := lv) (y_load sc39 rfl (H13.cell 1 rfl rfl)) ?_
 refine sy (v := I ((0 : Nat) : Int)) (y_lenR Try.underlying39 (hE.rd H13 2 rfl) rfl) ?_
 refine sy (v := .bool (decide (ib < 0))) (n_lss (a := ib) (b := 0) rfl rfl) ?_
 refine c_nil ?_
 refine n_then ?_
 have hq14 : ¬ (ib < 0) := (by omega)
 refine c_f rfl (decide_eq_false hq14) ?_
 refine wp_exit ?_
 refine x_then (x_then (x_hit (n_then ?_)))
 refine c_seq ?_
 refine c_seq ?_
 refine c_reg ?_
 refine sy (v := I ((0 : Nat) : Int)) (y_assign (v := I ((0 : Nat) : Int)) rfl) ?_
 refine c_nil ?_
 refine n_then ?_
 refine wp_block ?_
 refine c_loop (fun (ic : Nat) f15 w16 => f15 1 = Ad (bs g1) (0) ∧ f15 3 = Ad (bs g4) (0) ∧ f15 10 = I ((ic : Nat) : Int) ∧ ic ≤ 0 ∧ St w0 X [EK, [(g1, Rw 41 ([I (n), lv]))], E] w16) (fun ic => 0 - ic) 0 ⟨s1_13, s3_13, rfl, (by omega), H13⟩ ?_
 rintro ic f15 w16 ⟨s1_17, s3_17, s10_17, hf0_17, H17⟩
 refine c_seq ?_
 refine c_seq ?_
 refine c_reg ?_
 refine sy (v := I ((ic : Nat) : Int)) (y_move s10_17) ?_
 refine sy (v := Ad (bs g1) (0 + 1)) (y_fld Try.underlying41 rfl rfl sz39 (by decide) s1_17) ?_
 refine sy (v := lv) (y_load sc39 rfl (H17.cell 1 rfl rfl)) ?_
 refine sy (v := I ((0 : Nat) : Int)) (y_lenR Try.underlying39 (hE.rd H17 2 rfl) rfl) ?_
 refine sy (v := .bool (decide (ic < 0))) (n_lss (a := ic) (b := 0) rfl rfl) ?_
 refine c_nil ?_
 refine n_then ?_
 have hq18 : ¬ (ic < 0) := (by omega)
 refine c_f rfl (decide_eq_false hq18) ?_
 refine wp_exit ?_
 refine x_then (x_then (x_hit (n_then ?_)))
 refine c_seq ?_
 refine c_reg ?_
 refine sy (v := Ad (bs g1) (0 + 1)) (y_fld Try.underlying41 rfl rfl sz39 (by decide) s1_17) ?_
 refine sy (v := lv) (y_load sc39 rfl (H17.cell 1 rfl rfl)) ?_
 refine sy (v := lv) (y_assign rfl) ?_
 refine c_nil ?_
 refine n_then ?_
 refine c_seq ?_
 refine c_seq ?_
 refine c_reg ?_
 refine sy (v := I ((0 : Nat) : Int)) (y_assign (v := I ((0 : Nat) : Int)) rfl) ?_
 refine c_nil ?_
 refine n_then ?_
 refine wp_block ?_
 refine c_loop (fun (qd : Nat) f19 w20 => ∃ (ul : Value), ∃ (zl : List Value), ∃ (EL : Part), f19 1 = Ad (bs g1) (0) ∧ f19 3 = Ad (bs g4) (0) ∧ f19 13 = ul ∧ f19 14 = I ((qd : Nat) : Int) ∧ qd ≤ 9 ∧ TS 74 5 lv 0 (([] : List Lf).flatMap Lf.cs) ul (0 + qd) zl EL ∧ St w0 X [EK, [(g1, Rw 41 ([I (n), lv]))], EL] w20) (fun qd => 9 - qd) 0 ⟨_, _, _, s1_17, s3_17, rfl, rfl, (by omega), (TS.refl hE), H17⟩ ?_
 rintro qd f19 w20 ⟨ul, zl, EL, s1_21, s3_21, s13_21, s14_21, hqd, htl, H21⟩
 refine c_seq ?_
 refine c_seq ?_
 refine c_reg ?_
 refine sy (v := I ((qd : Nat) : Int)) (y_move s14_21) ?_
 refine sy (v := .bool (decide (qd < 9))) (n_lss (a := qd) (b := 9) rfl rfl) ?_
 refine c_nil ?_
 refine n_then ?_
 refine c_if rfl (fun hc22 => ?_) (fun hc22 => ?_)
 ·
  refine wp_skip ?_
  refine n_then ?_
  refine c_seq ?_
  refine wp_block ?_
  refine c_reg ?_
  refine sy (v := ul) (y_move s13_21) ?_
  refine sy (v := .agg ([I (-8), I ((0 : Nat) : Int), .string .empty, .slice none 0 0, .slice none 0 0]).toArray) (y_build (pv := [(0, I (-8))]) (us := [I (-8), I ((0 : Nat) : Int), .string (.empty), .slice none 0 0, .slice none 0 0]) ⟨⟨rfl, rfl⟩, trivial⟩ (by kernel_rfl)) ?_
  refine st (ow_buildSlice (pv := [(0, .agg ([I (-8), I ((0 : Nat) : Int), .string .empty, .slice none 0 0, .slice none 0 0]).toArray)]) (us := [I (-8), I ((0 : Nat) : Int), .string (.empty), .slice none 0 0, .slice none 0 0]) Try.underlying39 sz74 zr74 H21 ⟨⟨rfl, rfl⟩, trivial⟩ (by decide) (by kernel_rfl)) ?_
  rintro _ w24 ⟨g23, rfl, H25⟩
  have H26 : St w0 _ [_, _, _, _] w24 := H25.foc 3 rfl rfl
  refine st (ow_append_ts (m := 1) Try.underlying39 sz74 zr74 bt74 rfl htl H26 rfl rfl ((H26.rd (n := 1) (s := 5) (cap := 1) 1 rfl (by simp) ⟨Nat.le_refl _, by simp [maxLen]⟩).src Try.underlying39 (by simp [Value.oneCell'])) (by omega) (by omega)) ?_
  rintro v28 w29 ⟨E27, ho31, H30⟩
  refine sy (v := v28) (y_assign rfl) ?_
  refine c_nil ?_
  refine n_block (n_then ?_)
  refine c_reg ?_
  refine sy (v := I ((qd : Nat) : Int)) (y_move s14_21) ?_
  refine sy (v := I ((qd + 1 : Nat) : Int)) (n_add (a := qd) (b := 1) rfl rfl (by omega)) ?_
  refine sy (v := I ((qd + 1 : Nat) : Int)) (y_assign rfl) ?_
  refine c_nil ?_
  have H32 : St w0 _ [_, _, _, _] w29 := H30.foc 3 rfl rfl
  have H33 : St w0 _ [_, _, _, _] w29 := H32.foc 3 rfl rfl
  have H34 : St w0 _ [_, _, _] w29 := H33.take 3 rfl
  exact lp_next (qd + 1) ⟨v28, _, E27, s1_21, s3_21, rfl, rfl, (by omega), ho31, H34⟩ (by show _ < _; omega)
 ·
  obtain rfl : qd = 9 := by omega
  refine wp_exit ?_
  refine x_then (x_then (x_hit (n_then ?_)))
  refine c_seq ?_
  refine c_reg ?_
  refine sy (v := Ad (bs g4) (0)) (y_move s3_21) ?_
  obtain ⟨s37, s38, hr39⟩ := hBK.rd H21 0 rfl
  refine st (ow_call fn52 rfl (stays_bc g4 tot s37 s38 xs us _ hr39 (by first | omega | simp)) ⟨rfl, trivial⟩) ?_
  rintro _ w35 ⟨rfl, hB36⟩
  have H40 : St w0 _ [_, _, _] w35 := H21.call hB36
  refine sy (v := .bool (true)) (y_assign rfl) ?_
  refine c_nil ?_
  refine n_then ?_
  refine c_seq ?_
  refine c_seq ?_
  have H41 : St w0 _ [_, _, _] w35 := H40.foc 2 rfl rfl
  obtain ⟨EX7, ER7, hox7, H42⟩ := OX.of htl H41
  refine c_reg ?_
  refine sy (v := I ((0 : Nat) : Int)) (y_assign (v := I ((0 : Nat) : Int)) rfl) ?_
  refine c_nil ?_
  refine n_then ?_
  refine wp_block ?_
  refine c_loop (fun (ie : Nat) f43 w44 => ∃ (E7 : Part), f43 1 = Ad (bs g1) (0) ∧ f43 15 = .bool (true) ∧ f43 16 = I ((ie : Nat) : Int) ∧ ie ≤ 0 ∧ OX 74 5 lv 0 E7 ∧ St w0 X [E7, ER7, EK, [(g1, Rw 41 ([I (n), lv]))]] w44) (fun ie => 0 - ie) 0 ⟨_, s1_21, rfl, rfl, (by omega), hox7, H42⟩ ?_
  rintro ie f43 w44 ⟨E7, s1_45, s15_45, s16_45, hie, ho7, H45⟩
  refine c_seq ?_
  refine c_seq ?_
  obtain ⟨cs46, hrd47⟩ := OX.rd ho7 H45 0 rfl
  refine c_reg ?_
  refine sy (v := I ((ie : Nat) : Int)) (y_move s16_45) ?_
  refine sy (v := Ad (bs g1) (0 + 1)) (y_fld Try.underlying41 rfl rfl sz39 (by decide) s1_45) ?_
  refine sy (v := lv) (y_load sc39 rfl (H45.cell 3 rfl rfl)) ?_
  refine sy (v := I ((0 : Nat) : Int)) (y_lenR Try.underlying39 hrd47 rfl) ?_
  refine sy (v := .bool (decide (ie < 0))) (n_lss (a := ie) (b := 0) rfl rfl) ?_
  refine c_nil ?_
  refine n_then ?_
  have hq48 : ¬ (ie < 0) := (by omega)
  refine c_f rfl (decide_eq_false hq48) ?_
  refine wp_exit ?_
  refine x_then (x_then (x_hit (n_then ?_)))
  refine c_seq ?_
  refine c_reg ?_
  refine sy (v := .bool (true)) (y_move s15_45) ?_
  refine sy (v := .bool (true)) (y_assign rfl) ?_
  refine c_nil ?_
  refine n_then ?_
  refine wp_ret ?_
  refine e_r1 Try.results48 (rv_t rfl) ?_
  exact ⟨_, rfl, rfl, H45.take 0 rfl⟩

set_option maxHeartbeats 8000000 in
set_option maxRecDepth 20000 in
theorem spoil1_c (X : List Nat) (w0 w : World) (n : Int) (lv : Value) (f0 : Lf) (E Ev0 Ep0 : Part) (H : St w0 X [Ev0, Ep0, E] w) (hE : OS 74 5 lv 1 (([f0] : List Lf).flatMap Lf.cs) E) (hv0 : OS 5 1 f0.cell.v f0.cell.c.l.length (f0.cell.c.l.map B8) Ev0) (hp0 : OS 26 32 f0.pv f0.path.length (f0.path.flatten.map B8) Ep0) (hh0 : H32 f0.path) (hb0 : f0.cell.c.l.length ≤ 134217728) (hn0 : f0.path.length ≤ 1099511627776) :
    Calls Try.prog 48 (([.agg ([I n, lv]).toArray] : List Value).toArray) w (fun e w' => ∃ v, e = .returned v ∧ v = .bool true ∧ St w0 X [] w') := by
 refine calls_mk Try.func48 rfl 128 Try.ntmps48 rfl ?_
 have H0 : St w0 X [Ev0, Ep0, E] w := H
 refine c_seq ?_
 refine c_reg ?_
 refine st (ow_box (l := [I (n), lv]) H0 rfl rfl) ?_
 rintro _ w2 ⟨g1, rfl, H3⟩
 refine sy (v := .bool (false)) (y_assign (v := .bool (false)) rfl) ?_
 refine c_nil ?_
 refine n_then ?_
 refine c_seq ?_
 refine c_reg ?_
 refine sy (v := .agg ([.slice none 0 0, .slice none 0 0, I ((0 : Nat) : Int), .bool false]).toArray) (y_build (parts := []) (pv := []) (us := [.slice none 0 0, .slice none 0 0, I ((0 : Nat) : Int), .bool (false)]) trivial (by kernel_rfl)) ?_
 refine st (ow_box (l := [.slice none 0 0, .slice none 0 0, I ((0 : Nat) : Int), .bool (false)]) H3 rfl rfl) ?_
 rintro _ w5 ⟨g4, rfl, H6⟩
 refine sy (v := Ad (bs g4) (0)) (y_assign rfl) ?_
 refine c_nil ?_
 refine n_then ?_
 refine c_seq ?_
 refine c_seq ?_
 refine c_reg ?_
 refine sy (v := I ((0 : Nat) : Int)) (y_assign (v := I ((0 : Nat) : Int)) rfl) ?_
 refine c_nil ?_
 refine n_then ?_
 refine wp_block ?_
 refine c_loop (fun (i : Nat) f7 w8 => ∃ (tot : Nat), ∃ (xs : List Value), ∃ (us : List Value), ∃ (EK : Part), ∃ (G0 : Part), ∃ (Q0 : Part), f7 1 = Ad (bs g1) (0) ∧ f7 3 = Ad (bs g4) (0) ∧ f7 4 = I ((i : Nat) : Int) ∧ i ≤ 1 ∧ BookA g4 tot xs us EK ∧ xs.length ≤ i ∧ tot ≤ i * 134217728 ∧ (if 0 < i then G0 = [] else OS 5 1 f0.cell.v f0.cell.c.l.length (f0.cell.c.l.map B8) G0) ∧ OS 26 32 f0.pv f0.path.length ((if 0 < i then (List.replicate f0.path.length (hcB (b8 ((0 + 1 : Nat) : Int)))) else f0.path).flatten.map B8) Q0 ∧ St w0 X [EK, [(g1, Rw 41 ([I (n), lv]))], G0, Q0, E] w8) (fun i => 1 - i) 0 ⟨0, [], [], [(g4, Rw 71 [.slice none 0 0, .slice none 0 0, I ((0 : Nat) : Int), .bool false])], Ev0, Ep0, rfl, rfl, rfl, (by omega), (booka_new g4), (by simp), (by omega), hv0, hp0, H6⟩ ?_
 rintro i f7 w8 ⟨tot, xs, us, EK, G0, Q0, s1_9, s3_9, s4_9, hi, hBK, hxl, htot, hV0, hQ0, H9⟩
 refine c_seq ?_
 refine c_seq ?_
 refine c_reg ?_
 refine sy (v := I ((i : Nat) : Int)) (y_move s4_9) ?_
 refine sy (v := Ad (bs g1) (0 + 1)) (y_fld Try.underlying41 rfl rfl sz39 (by decide) s1_9) ?_
 refine sy (v := lv) (y_load sc39 rfl (H9.cell 1 rfl rfl)) ?_
 refine sy (v := I ((1 : Nat) : Int)) (y_lenR Try.underlying39 (hE.rd H9 4 rfl) rfl) ?_
 refine sy (v := .bool (decide (i < 1))) (n_lss (a := i) (b := 1) rfl rfl) ?_
 refine c_nil ?_
 refine n_then ?_
 refine c_if rfl (fun hc10 => ?_) (fun hc10 => ?_)
 ·
  obtain rfl : i = 0 := by omega
  ·
   have hvx : OS 5 1 f0.cell.v f0.cell.c.l.length (f0.cell.c.l.map B8) G0 := hV0
   have hpx : OS 26 32 f0.pv f0.path.length (f0.path.flatten.map B8) Q0 := hQ0
   have hbx := hb0
   refine wp_skip ?_
   refine n_then ?_
   refine c_seq ?_
   refine wp_block ?_
   refine c_seq ?_
   refine c_reg ?_
   refine sy (v := Ad (bs g4) (0)) (y_move s3_9) ?_
   refine sy (v := Ad (bs g1) (0 + 1)) (y_fld Try.underlying41 rfl rfl sz39 (by decide) s1_9) ?_
   refine sy (v := lv) (y_load sc39 rfl (H9.cell 1 rfl rfl)) ?_
   refine sy (v := I ((0 : Nat) : Int)) (y_move s4_9) ?_
   refine sy (v := Ad (sp (lv)) (0 * 5)) (y_ixR (m := 0) Try.underlying39 sz74 (hE.rd H9 4 rfl) (by decide) rfl rfl rfl (by omega)) ?_
   refine sy (v := Ad (sp (lv)) ((0 * 5) + 1)) (y_fld Try.underlying74 rfl rfl sz48 (by decide) rfl) ?_
   refine sy (v := Ad (sp (lv)) (((0 * 5) + 1) + 2)) (y_fld Try.underlying48 rfl rfl sz23 (by decide) rfl) ?_
   refine sy (v := f0.cell.v) (y_load sc23 rfl ((hE.rd H9 4 rfl).cell _ _ (show (([f0] : List Lf).flatMap Lf.cs)[3]? = _ from rfl))) ?_
   have H11 : St w0 _ [_, _, _, _, _] w8 := H9.foc 4 rfl rfl
   have H12 : St w0 _ [_, _, _, _, _] w8 := H11.foc 4 rfl rfl
   have H13 : St w0 _ [_, _, _, _, _] w8 := H12.foc 3 rfl rfl
   have H14 : St w0 _ [_, _, _, _, _] w8 := H13.foc 3 rfl rfl
   have H15 : St w0 _ [_, _, _, _, _] w8 := H14.foc 4 rfl rfl
   obtain ⟨H16, hd17⟩ := H15.join
   refine st (ow_call fn51 rfl (add_c g4 tot xs us EK G0 (f0.cell.v) f0.cell.c.l _ hBK hvx hd17 (fun p hp => H16.own _ List.mem_cons_self p hp) (by first | omega | (simp only [List.length_nil]; omega)) (by omega)) ⟨rfl, rfl, trivial⟩) ?_
   rintro _ w22 ⟨rfl, tz18, xz19, uz20, EB21, hB24, hlx25, htx26, H23⟩
   have H27 : St w0 _ [_, _, _, _] w22 := H16.appE H23
   refine c_nil ?_
   refine n_then ?_
   refine c_seq ?_
   refine c_reg ?_
   refine sy (v := Ad (bs g1) (0 + 1)) (y_fld Try.underlying41 rfl rfl sz39 (by decide) s1_9) ?_
   refine sy (v := lv) (y_load sc39 rfl (H27.cell 1 rfl rfl)) ?_
   refine sy (v := I ((0 : Nat) : Int)) (y_move s4_9) ?_
   refine sy (v := Ad (sp (lv)) (0 * 5)) (y_ixR (m := 0) Try.underlying39 sz74 (hE.rd H27 3 rfl) (by decide) rfl rfl rfl (by omega)) ?_
   refine sy (v := Ad (sp (lv)) ((0 * 5) + 4)) (y_fld Try.underlying74 rfl rfl sz72 (by decide) rfl) ?_
   refine sy (v := f0.pv) (y_load sc72 rfl ((hE.rd H27 3 rfl).cell _ _ (show (([f0] : List Lf).flatMap Lf.cs)[4]? = _ from rfl))) ?_
   refine sy (v := f0.pv) (y_assign rfl) ?_
   refine c_nil ?_
   refine n_then ?_
   refine c_seq ?_
   refine c_reg ?_
   refine sy (v := I ((0 : Nat) : Int)) (y_assign (v := I ((0 : Nat) : Int)) rfl) ?_
   refine c_nil ?_
   refine n_then ?_
   refine wp_block ?_
   refine c_loop (fun (k : Nat) f28 w29 => ∃ (EP : Part), f28 1 = Ad (bs g1) (0) ∧ f28 3 = Ad (bs g4) (0) ∧ f28 4 = I ((0 : Nat) : Int) ∧ f28 5 = f0.pv ∧ f28 6 = I ((k : Nat) : Int) ∧ k ≤ f0.path.length ∧ OS 26 32 f0.pv f0.path.length ((fkh (hcB (b8 ((0 + 1 : Nat) : Int))) k f0.path).flatten.map B8) EP ∧ St w0 X [EB21, [(g1, Rw 41 ([I (n), lv]))], EP, E] w29) (fun k => f0.path.length - k) 0 ⟨_, s1_9, s3_9, s4_9, rfl, rfl, (Nat.zero_le _), hpx, H27⟩ ?_
   rintro k f28 w29 ⟨EP, s1_30, s3_30, s4_30, s5_30, s6_30, hk, hoK, H30⟩
   have hfl : (fkh (hcB (b8 ((0 + 1 : Nat) : Int))) k f0.path).length = f0.path.length := fkh_len (by omega)
   refine c_seq ?_
   refine c_seq ?_
   refine c_reg ?_
   refine sy (v := I ((k : Nat) : Int)) (y_move s6_30) ?_
   refine sy (v := f0.pv) (y_move s5_30) ?_
   refine sy (v := I ((f0.path.length : Nat) : Int)) (y_lenR Try.underlying72 (hoK.rd H30 2 rfl) rfl) ?_
   refine sy (v := .bool (decide (k < f0.path.length))) (n_lss (a := k) (b := f0.path.length) rfl rfl) ?_
   refine c_nil ?_
   refine n_then ?_
   refine c_if rfl (fun hc31 => ?_) (fun hc31 => ?_)
   ·
    refine wp_skip ?_
    refine n_then ?_
    refine c_seq ?_
    refine wp_block ?_
    refine c_reg ?_
    refine sy (v := f0.pv) (y_move s5_30) ?_
    refine sy (v := I ((k : Nat) : Int)) (y_move s6_30) ?_
    refine sy (v := I ((0 : Nat) : Int)) (y_move s4_30) ?_
    refine sy (v := I ((0 + 1 : Nat) : Int)) (n_add (a := 0) (b := 1) rfl rfl (by omega)) ?_
    refine sy (v := B8 (b8 ((0 + 1 : Nat)))) (y_conv_I_8 Try.underlying3 Try.underlying5 rfl) ?_
    refine sy (v := .agg (((hcB (b8 ((0 + 1 : Nat) : Int)))).map B8).toArray) (y_build (pv := [(0, B8 (b8 ((0 + 1 : Nat) : Int)))]) (us := (hcB (b8 ((0 + 1 : Nat) : Int))).map B8) ⟨⟨rfl, rfl⟩, trivial⟩ (by kernel_rfl)) ?_
    refine sy (v := Ad (sp (f0.pv)) (k * 32)) (y_ixR (m := k) Try.underlying72 sz26 (hoK.rd H30 2 rfl) (by decide) rfl rfl rfl (by omega)) ?_
    have H36 : St w0 _ [_, _, _, _] w29 := H30.foc 2 rfl rfl
    refine s0 (ow_storeOSH (i := k) (hs := (fkh (hcB (b8 ((0 + 1 : Nat) : Int))) k f0.path)) (by rw [hfl]; exact hoK) (fkh_h32 (hcB_len _) hh0) H36 sz26 (hcB_len _) rfl rfl rfl (by omega)) ?_
    rintro _ w33 ⟨E32, ho35', H34⟩
    have ho35 : OS 26 32 f0.pv f0.path.length ((fkh (hcB (b8 ((0 + 1 : Nat) : Int))) (k + 1) f0.path).flatten.map B8) E32 := by have h := ho35'; rw [fkh_step (by omega), fkh_len (by omega)] at h; exact h
    refine c_nil ?_
    refine n_block (n_then ?_)
    refine c_reg ?_
    refine sy (v := I ((k : Nat) : Int)) (y_move s6_30) ?_
    refine sy (v := I ((k + 1 : Nat) : Int)) (n_add (a := k) (b := 1) rfl rfl (by omega)) ?_
    refine sy (v := I ((k + 1 : Nat) : Int)) (y_assign rfl) ?_
    refine c_nil ?_
    have H37 : St w0 _ [_, _, _, _] w33 := H34.foc 3 rfl rfl
    have H38 : St w0 _ [_, _, _, _] w33 := H37.foc 1 rfl rfl
    have H39 : St w0 _ [_, _, _, _] w33 := H38.foc 3 rfl rfl
    have H40 : St w0 _ [_, _, _, _] w33 := H39.foc 3 rfl rfl
    exact lp_next (k + 1) ⟨E32, s1_30, s3_30, s4_30, s5_30, rfl, (by omega), ho35, H40⟩ (by show _ < _; omega)
   ·
    obtain rfl : k = f0.path.length := by omega
    have hQE : OS 26 32 f0.pv f0.path.length ((List.replicate f0.path.length (hcB (b8 ((0 + 1 : Nat) : Int)))).flatten.map B8) EP := by rw [fkh_end] at hoK; exact hoK
    refine wp_exit ?_
    refine x_then (x_then (x_hit (n_block (n_then ?_))))
    refine c_reg ?_
    refine sy (v := I ((0 : Nat) : Int)) (y_move s4_30) ?_
    refine sy (v := I ((0 + 1 : Nat) : Int)) (n_add (a := 0) (b := 1) rfl rfl (by omega)) ?_
    refine sy (v := I ((0 + 1 : Nat) : Int)) (y_assign rfl) ?_
    refine c_nil ?_
    have H41 : St w0 _ [_, _, _, _, _] w29 := H30.nilp
    have H42 : St w0 _ [_, _, _, _, _] w29 := H41.foc 4 rfl rfl
    have H43 : St w0 _ [_, _, _, _, _] w29 := H42.foc 4 rfl rfl
    have H44 : St w0 _ [_, _, _, _, _] w29 := H43.foc 2 rfl rfl
    have H45 : St w0 _ [_, _, _, _, _] w29 := H44.foc 4 rfl rfl
    have H46 : St w0 _ [_, _, _, _, _] w29 := H45.foc 4 rfl rfl
    exact lp_next (0 + 1) ⟨tz18, xz19, uz20, EB21, [], EP, s1_30, s3_30, rfl, (by omega), hB24, (by omega), (by omega), rfl, hQE, H46⟩ (by show _ < _; omega)
 ·
  obtain rfl : i = 1 := by omega
  have hP0 : OS 26 32 f0.pv f0.path.length ((List.replicate f0.path.length (hcB (b8 ((0 + 1 : Nat) : Int)))).flatten.map B8) Q0 := hQ0
  refine wp_exit ?_
  refine x_then (x_then (x_hit (n_then ?_)))
  refine c_seq ?_
  refine c_seq ?_
  refine c_reg ?_
  refine sy (v := I ((0 : Nat) : Int)) (y_assign (v := I ((0 : Nat) : Int)) rfl) ?_
  refine c_nil ?_
  refine n_then ?_
  refine wp_block ?_
  refine c_loop (fun (ib : Nat) f47 w48 => ∃ (R0 : Part), f47 1 = Ad (bs g1) (0) ∧ f47 3 = Ad (bs g4) (0) ∧ f47 7 = I ((ib : Nat) : Int) ∧ ib ≤ 1 ∧ OS 26 32 f0.pv f0.path.length ((List.replicate f0.path.length (hcB (b8 ((0 + 1 : Nat) : Int)))).flatten.map B8) R0 ∧ St w0 X [EK, [(g1, Rw 41 ([I (n), lv]))], G0, R0, E] w48) (fun ib => 1 - ib) 0 ⟨_, s1_9, s3_9, rfl, (by omega), hP0, H9⟩ ?_
  rintro ib f47 w48 ⟨R0, s1_49, s3_49, s7_49, hib, hr0, H49⟩
  refine c_seq ?_
  refine c_seq ?_
  refine c_reg ?_
  refine sy (v := I ((ib : Nat) : Int)) (y_move s7_49) ?_
  refine sy (v := Ad (bs g1) (0 + 1)) (y_fld Try.underlying41 rfl rfl sz39 (by decide) s1_49) ?_
  refine sy (v := lv) (y_load sc39 rfl (H49.cell 1 rfl rfl)) ?_
  refine sy (v := I ((1 : Nat) : Int)) (y_lenR Try.underlying39 (hE.rd H49 4 rfl) rfl) ?_
  refine sy (v := .bool (decide (ib < 1))) (n_lss (a := ib) (b := 1) rfl rfl) ?_
  refine c_nil ?_
  refine n_then ?_
  refine c_if rfl (fun hc50 => ?_) (fun hc50 => ?_)
  ·
   obtain rfl : ib = 0 := by omega
   ·
    have hrl : ((List.replicate f0.path.length (hcB (b8 ((0 + 1 : Nat) : Int))))).length = f0.path.length := List.length_replicate (n := f0.path.length) (a := (hcB (b8 ((0 + 1 : Nat) : Int))))
    refine wp_skip ?_
    refine n_then ?_
    refine c_seq ?_
    refine wp_block ?_
    refine c_seq ?_
    refine c_reg ?_
    refine sy (v := Ad (bs g1) (0 + 1)) (y_fld Try.underlying41 rfl rfl sz39 (by decide) s1_49) ?_
    refine sy (v := lv) (y_load sc39 rfl (H49.cell 1 rfl rfl)) ?_
    refine sy (v := I ((0 : Nat) : Int)) (y_move s7_49) ?_
    refine sy (v := Ad (sp (lv)) (0 * 5)) (y_ixR (m := 0) Try.underlying39 sz74 (hE.rd H49 4 rfl) (by decide) rfl rfl rfl (by omega)) ?_
    refine sy (v := Ad (sp (lv)) ((0 * 5) + 4)) (y_fld Try.underlying74 rfl rfl sz72 (by decide) rfl) ?_
    refine sy (v := f0.pv) (y_load sc72 rfl ((hE.rd H49 4 rfl).cell _ _ (show (([f0] : List Lf).flatMap Lf.cs)[4]? = _ from rfl))) ?_
    refine sy (v := f0.pv) (y_assign rfl) ?_
    refine c_nil ?_
    refine n_then ?_
    refine c_seq ?_
    refine c_reg ?_
    refine sy (v := I ((0 : Nat) : Int)) (y_assign (v := I ((0 : Nat) : Int)) rfl) ?_
    refine c_nil ?_
    refine n_then ?_
    refine wp_block ?_
    refine c_loop (fun (q : Nat) f51 w52 => ∃ (uv : Value), ∃ (zs : List Value), ∃ (EZ : Part), f51 1 = Ad (bs g1) (0) ∧ f51 3 = Ad (bs g4) (0) ∧ f51 7 = I ((0 : Nat) : Int) ∧ f51 8 = uv ∧ f51 9 = I ((q : Nat) : Int) ∧ q ≤ 20 ∧ TS 26 32 f0.pv f0.path.length ((List.replicate f0.path.length (hcB (b8 ((0 + 1 : Nat) : Int)))).flatten.map B8) uv (f0.path.length + q) zs EZ ∧ St w0 X [EK, [(g1, Rw 41 ([I (n), lv]))], G0, EZ, E] w52) (fun q => 20 - q) 0 ⟨_, _, _, s1_49, s3_49, s7_49, rfl, rfl, (by omega), (TS.refl hr0), H49⟩ ?_
    rintro q f51 w52 ⟨uv, zs, EZ, s1_53, s3_53, s7_53, s8_53, s9_53, hq, hts, H53⟩
    refine c_seq ?_
    refine c_seq ?_
    refine c_reg ?_
    refine sy (v := I ((q : Nat) : Int)) (y_move s9_53) ?_
    refine sy (v := .bool (decide (q < 20))) (n_lss (a := q) (b := 20) rfl rfl) ?_
    refine c_nil ?_
    refine n_then ?_
    refine c_if rfl (fun hc54 => ?_) (fun hc54 => ?_)
    ·
     refine wp_skip ?_
     refine n_then ?_
     refine c_seq ?_
     refine wp_block ?_
     refine c_reg ?_
     refine sy (v := uv) (y_move s8_53) ?_
     refine sy (v := .agg (((hcB 238)).map B8).toArray) (y_build (pv := [(0, B8 (238))]) (us := (hcB (238)).map B8) ⟨⟨rfl, rfl⟩, trivial⟩ (by kernel_rfl)) ?_
     refine st (ow_lit1 (h := (hcB (238))) Try.underlying72 sz26 zr26 H53 rfl (hcB_len _)) ?_
     rintro _ w56 ⟨g55, rfl, H57⟩
     have hh58 : H32 [(hcB (238))] := hh_one (hcB_len _)
     have H59 : St w0 _ [_, _, _, _, _, _] w56 := H57.foc 4 rfl rfl
     refine st (ow_append_ts (m := 1) Try.underlying72 sz26 zr26 bt26 rfl hts H59 rfl rfl ((rd_hblk (n := 1) H59 1 rfl hh58 rfl (by unfold maxLen; omega)).src Try.underlying72 (map_one (F := B8) (fun _ => rfl) _)) (by omega) (by omega)) ?_
     rintro v61 w62 ⟨E60, ho64, H63⟩
     refine sy (v := v61) (y_assign rfl) ?_
     refine c_nil ?_
     refine n_block (n_then ?_)
     refine c_reg ?_
     refine sy (v := I ((q : Nat) : Int)) (y_move s9_53) ?_
     refine sy (v := I ((q + 1 : Nat) : Int)) (n_add (a := q) (b := 1) rfl rfl (by omega)) ?_
     refine sy (v := I ((q + 1 : Nat) : Int)) (y_assign rfl) ?_
     refine c_nil ?_
     have H65 : St w0 _ [_, _, _, _, _, _] w62 := H63.foc 5 rfl rfl
     have H66 : St w0 _ [_, _, _, _, _, _] w62 := H65.foc 1 rfl rfl
     have H67 : St w0 _ [_, _, _, _, _, _] w62 := H66.foc 5 rfl rfl
     have H68 : St w0 _ [_, _, _, _, _, _] w62 := H67.foc 5 rfl rfl
     have H69 : St w0 _ [_, _, _, _, _, _] w62 := H68.foc 5 rfl rfl
     have H70 : St w0 _ [_, _, _, _, _] w62 := H69.take 5 rfl
     exact lp_next (q + 1) ⟨v61, _, E60, s1_53, s3_53, s7_53, rfl, rfl, (by omega), ho64, H70⟩ (by show _ < _; omega)
    ·
     obtain rfl : q = 20 := by omega
     refine wp_exit ?_
     refine x_then (x_then (x_hit (n_block (n_then ?_))))
     refine c_reg ?_
     refine sy (v := I ((0 : Nat) : Int)) (y_move s7_53) ?_
     refine sy (v := I ((0 + 1 : Nat) : Int)) (n_add (a := 0) (b := 1) rfl rfl (by omega)) ?_
     refine sy (v := I ((0 + 1 : Nat) : Int)) (y_assign rfl) ?_
     refine c_nil ?_
     have H71 : St w0 _ [_, _, _, _, _] w52 := H53.foc 3 rfl rfl
     obtain ⟨EX, ER, hox, H72⟩ := ts_x hts H71
     have H73 : St w0 _ [_, _, _, _, _, _] w52 := H72.foc 5 rfl rfl
     have H74 : St w0 _ [_, _, _, _, _, _] w52 := H73.foc 1 rfl rfl
     have H75 : St w0 _ [_, _, _, _, _, _] w52 := H74.foc 5 rfl rfl
     have H76 : St w0 _ [_, _, _, _, _, _] w52 := H75.foc 5 rfl rfl
     have H77 : St w0 _ [_, _, _, _, _, _] w52 := H76.foc 5 rfl rfl
     have H78 : St w0 _ [_, _, _, _, _] w52 := H77.take 5 rfl
     exact lp_next (0 + 1) ⟨EX, s1_53, s3_53, rfl, (by omega), hox, H78⟩ (by show _ < _; omega)
  ·
   refine wp_exit ?_
   refine x_then (x_then (x_hit (n_then ?_)))
   refine c_seq ?_
   refine c_seq ?_
   refine c_reg ?_
   refine sy (v := I ((0 : Nat) : Int)) (y_assign (v := I ((0 : Nat) : Int)) rfl) ?_
   refine c_nil ?_
   refine n_then ?_
   refine wp_block ?_
   refine c_loop (fun (ic : Nat) f79 w80 => f79 1 = Ad (bs g1) (0) ∧ f79 3 = Ad (bs g4) (0) ∧ f79 10 = I ((ic : Nat) : Int) ∧ ic ≤ 1 ∧ St w0 X [EK, [(g1, Rw 41 ([I (n), lv]))], G0, R0, E] w80) (fun ic => 1 - ic) 0 ⟨s1_49, s3_49, rfl, (by omega), H49⟩ ?_
   rintro ic f79 w80 ⟨s1_81, s3_81, s10_81, hf0_81, H81⟩
   refine c_seq ?_
   refine c_seq ?_
   refine c_reg ?_
   refine sy (v := I ((ic : Nat) : Int)) (y_move s10_81) ?_
   refine sy (v := Ad (bs g1) (0 + 1)) (y_fld Try.underlying41 rfl rfl sz39 (by decide) s1_81) ?_
   refine sy (v := lv) (y_load sc39 rfl (H81.cell 1 rfl rfl)) ?_
   refine sy (v := I ((1 : Nat) : Int)) (y_lenR Try.underlying39 (hE.rd H81 4 rfl) rfl) ?_
   refine sy (v := .bool (decide (ic < 1))) (n_lss (a := ic) (b := 1) rfl rfl) ?_
   refine c_nil ?_
   refine n_then ?_
   refine c_if rfl (fun hc82 => ?_) (fun hc82 => ?_)
   ·
    obtain rfl : ic = 0 := by omega
    ·
     have hrl : ((List.replicate f0.path.length (hcB (b8 ((0 + 1 : Nat) : Int))))).length = f0.path.length := List.length_replicate (n := f0.path.length) (a := (hcB (b8 ((0 + 1 : Nat) : Int))))
     refine wp_skip ?_
     refine n_then ?_
     refine c_seq ?_
     refine wp_block ?_
     refine c_seq ?_
     refine c_reg ?_
     refine sy (v := Ad (bs g1) (0 + 1)) (y_fld Try.underlying41 rfl rfl sz39 (by decide) s1_81) ?_
     refine sy (v := lv) (y_load sc39 rfl (H81.cell 1 rfl rfl)) ?_
     refine sy (v := I ((0 : Nat) : Int)) (y_move s10_81) ?_
     refine sy (v := Ad (sp (lv)) (0 * 5)) (y_ixR (m := 0) Try.underlying39 sz74 (hE.rd H81 4 rfl) (by decide) rfl rfl rfl (by omega)) ?_
     refine sy (v := Ad (sp (lv)) ((0 * 5) + 4)) (y_fld Try.underlying74 rfl rfl sz72 (by decide) rfl) ?_
     refine sy (v := f0.pv) (y_load sc72 rfl ((hE.rd H81 4 rfl).cell _ _ (show (([f0] : List Lf).flatMap Lf.cs)[4]? = _ from rfl))) ?_
     refine sy (v := f0.pv) (y_assign rfl) ?_
     refine c_nil ?_
     refine n_then ?_
     refine c_seq ?_
     refine c_reg ?_
     refine sy (v := I ((0 : Nat) : Int)) (y_assign (v := I ((0 : Nat) : Int)) rfl) ?_
     refine c_nil ?_
     refine n_then ?_
     refine wp_block ?_
     refine c_loop (fun (kc : Nat) f83 w84 => f83 1 = Ad (bs g1) (0) ∧ f83 3 = Ad (bs g4) (0) ∧ f83 10 = I ((0 : Nat) : Int) ∧ f83 11 = f0.pv ∧ f83 12 = I ((kc : Nat) : Int) ∧ kc ≤ f0.path.length ∧ St w0 X [EK, [(g1, Rw 41 ([I (n), lv]))], G0, R0, E] w84) (fun kc => f0.path.length - kc) 0 ⟨s1_81, s3_81, s10_81, rfl, rfl, (Nat.zero_le _), H81⟩ ?_
     rintro kc f83 w84 ⟨s1_85, s3_85, s10_85, s11_85, s12_85, hf0_85, H85⟩
     refine c_seq ?_
     refine c_seq ?_
     refine c_reg ?_
     refine sy (v := I ((kc : Nat) : Int)) (y_move s12_85) ?_
     refine sy (v := f0.pv) (y_move s11_85) ?_
     refine sy (v := I ((f0.path.length : Nat) : Int)) (y_lenR Try.underlying72 (hr0.rd H85 3 rfl) rfl) ?_
     refine sy (v := .bool (decide (kc < f0.path.length))) (n_lss (a := kc) (b := f0.path.length) rfl rfl) ?_
     refine c_nil ?_
     refine n_then ?_
     refine c_if rfl (fun hc86 => ?_) (fun hc86 => ?_)
     ·
      refine wp_skip ?_
      refine n_then ?_
      refine c_seq ?_
      refine wp_block ?_
      refine c_seq ?_
      refine c_reg ?_
      refine sy (v := f0.pv) (y_move s11_85) ?_
      refine sy (v := I ((kc : Nat) : Int)) (y_move s12_85) ?_
      refine sy (v := Ad (sp (f0.pv)) (kc * 32)) (y_ixR (m := kc) Try.underlying72 sz26 (hr0.rd H85 3 rfl) (by decide) rfl rfl rfl (by omega)) ?_
      refine sy (v := .agg (((List.replicate f0.path.length (hcB (b8 ((0 + 1 : Nat) : Int)))).getD kc []).map B8).toArray) (y_loadA (us := ((List.replicate f0.path.length (hcB (b8 ((0 + 1 : Nat) : Int)))).getD kc []).map B8) ag26 sz26 ((List.length_map _).trans (getD_len (rph_h32 (hcB_len _)) (by omega))) rfl (fun j u hu => (hr0.rd H85 3 rfl).cell _ _ (flat_get (rph_h32 (hcB_len _)) (by omega) hu))) ?_
      refine sy (v := I ((0 : Nat) : Int)) (y_move s10_85) ?_
      refine sy (v := I ((0 + 1 : Nat) : Int)) (n_add (a := 0) (b := 1) rfl rfl (by omega)) ?_
      refine sy (v := B8 (b8 ((0 + 1 : Nat)))) (y_conv_I_8 Try.underlying3 Try.underlying5 rfl) ?_
      refine sy (v := .agg (((hcB (b8 ((0 + 1 : Nat) : Int)))).map B8).toArray) (y_build (pv := [(0, B8 (b8 ((0 + 1 : Nat) : Int)))]) (us := (hcB (b8 ((0 + 1 : Nat) : Int))).map B8) ⟨⟨rfl, rfl⟩, trivial⟩ (by kernel_rfl)) ?_
      refine sy (v := .bool (decide (((List.replicate f0.path.length (hcB (b8 ((0 + 1 : Nat) : Int)))).getD kc []) ≠ (hcB (b8 ((0 + 1 : Nat) : Int)))))) (y_neqArr (l1 := (List.replicate f0.path.length (hcB (b8 ((0 + 1 : Nat) : Int)))).getD kc []) (l2 := (hcB (b8 ((0 + 1 : Nat) : Int)))) Try.underlying26 sz5 sc5 Try.underlying5 gt26 (getD_len (rph_h32 (hcB_len _)) (by omega)) (hcB_len _) rfl rfl) ?_
      refine c_nil ?_
      refine n_then ?_
      have hq87 : ¬ (((List.replicate f0.path.length (hcB (b8 ((0 + 1 : Nat) : Int)))).getD kc []) ≠ (hcB (b8 ((0 + 1 : Nat) : Int)))) := (not_not_intro (rph_get (by omega)))
      refine c_f rfl (decide_eq_false hq87) ?_
      refine wp_skip ?_
      refine n_block (n_then ?_)
      refine c_reg ?_
      refine sy (v := I ((kc : Nat) : Int)) (y_move s12_85) ?_
      refine sy (v := I ((kc + 1 : Nat) : Int)) (n_add (a := kc) (b := 1) rfl rfl (by omega)) ?_
      refine sy (v := I ((kc + 1 : Nat) : Int)) (y_assign rfl) ?_
      refine c_nil ?_
      exact lp_next (kc + 1) ⟨s1_85, s3_85, s10_85, s11_85, rfl, (by omega), H85⟩ (by show _ < _; omega)
     ·
      refine wp_exit ?_
      refine x_then (x_then (x_hit (n_block (n_then ?_))))
      refine c_reg ?_
      refine sy (v := I ((0 : Nat) : Int)) (y_move s10_85) ?_
      refine sy (v := I ((0 + 1 : Nat) : Int)) (n_add (a := 0) (b := 1) rfl rfl (by omega)) ?_
      refine sy (v := I ((0 + 1 : Nat) : Int)) (y_assign rfl) ?_
      refine c_nil ?_
      exact lp_next (0 + 1) ⟨s1_85, s3_85, rfl, (by omega), H85⟩ (by show _ < _; omega)
   ·
    refine wp_exit ?_
    refine x_then (x_then (x_hit (n_then ?_)))
    refine c_seq ?_
    refine c_reg ?_
    refine sy (v := Ad (bs g1) (0 + 1)) (y_fld Try.underlying41 rfl rfl sz39 (by decide) s1_81) ?_
    refine sy (v := lv) (y_load sc39 rfl (H81.cell 1 rfl rfl)) ?_
    refine sy (v := lv) (y_assign rfl) ?_
    refine c_nil ?_
    refine n_then ?_
    refine c_seq ?_
    refine c_seq ?_
    refine c_reg ?_
    refine sy (v := I ((0 : Nat) : Int)) (y_assign (v := I ((0 : Nat) : Int)) rfl) ?_
    refine c_nil ?_
    refine n_then ?_
    refine wp_block ?_
    refine c_loop (fun (qd : Nat) f88 w89 => ∃ (ul : Value), ∃ (zl : List Value), ∃ (EL : Part), f88 1 = Ad (bs g1) (0) ∧ f88 3 = Ad (bs g4) (0) ∧ f88 13 = ul ∧ f88 14 = I ((qd : Nat) : Int) ∧ qd ≤ 9 ∧ TS 74 5 lv 1 (([f0] : List Lf).flatMap Lf.cs) ul (1 + qd) zl EL ∧ St w0 X [EK, [(g1, Rw 41 ([I (n), lv]))], G0, R0, EL] w89) (fun qd => 9 - qd) 0 ⟨_, _, _, s1_81, s3_81, rfl, rfl, (by omega), (TS.refl hE), H81⟩ ?_
    rintro qd f88 w89 ⟨ul, zl, EL, s1_90, s3_90, s13_90, s14_90, hqd, htl, H90⟩
    refine c_seq ?_
    refine c_seq ?_
    refine c_reg ?_
    refine sy (v := I ((qd : Nat) : Int)) (y_move s14_90) ?_
    refine sy (v := .bool (decide (qd < 9))) (n_lss (a := qd) (b := 9) rfl rfl) ?_
    refine c_nil ?_
    refine n_then ?_
    refine c_if rfl (fun hc91 => ?_) (fun hc91 => ?_)
    ·
     refine wp_skip ?_
     refine n_then ?_
     refine c_seq ?_
     refine wp_block ?_
     refine c_reg ?_
     refine sy (v := ul) (y_move s13_90) ?_
     refine sy (v := .agg ([I (-8), I ((0 : Nat) : Int), .string .empty, .slice none 0 0, .slice none 0 0]).toArray) (y_build (pv := [(0, I (-8))]) (us := [I (-8), I ((0 : Nat) : Int), .string (.empty), .slice none 0 0, .slice none 0 0]) ⟨⟨rfl, rfl⟩, trivial⟩ (by kernel_rfl)) ?_
     refine st (ow_buildSlice (pv := [(0, .agg ([I (-8), I ((0 : Nat) : Int), .string .empty, .slice none 0 0, .slice none 0 0]).toArray)]) (us := [I (-8), I ((0 : Nat) : Int), .string (.empty), .slice none 0 0, .slice none 0 0]) Try.underlying39 sz74 zr74 H90 ⟨⟨rfl, rfl⟩, trivial⟩ (by decide) (by kernel_rfl)) ?_
     rintro _ w93 ⟨g92, rfl, H94⟩
     have H95 : St w0 _ [_, _, _, _, _, _] w93 := H94.foc 5 rfl rfl
     refine st (ow_append_ts (m := 1) Try.underlying39 sz74 zr74 bt74 rfl htl H95 rfl rfl ((H95.rd (n := 1) (s := 5) (cap := 1) 1 rfl (by simp) ⟨Nat.le_refl _, by simp [maxLen]⟩).src Try.underlying39 (by simp [Value.oneCell'])) (by omega) (by omega)) ?_
     rintro v97 w98 ⟨E96, ho100, H99⟩
     refine sy (v := v97) (y_assign rfl) ?_
     refine c_nil ?_
     refine n_block (n_then ?_)
     refine c_reg ?_
     refine sy (v := I ((qd : Nat) : Int)) (y_move s14_90) ?_
     refine sy (v := I ((qd + 1 : Nat) : Int)) (n_add (a := qd) (b := 1) rfl rfl (by omega)) ?_
     refine sy (v := I ((qd + 1 : Nat) : Int)) (y_assign rfl) ?_
     refine c_nil ?_
     have H101 : St w0 _ [_, _, _, _, _, _] w98 := H99.foc 5 rfl rfl
     have H102 : St w0 _ [_, _, _, _, _, _] w98 := H101.foc 5 rfl rfl
     have H103 : St w0 _ [_, _, _, _, _, _] w98 := H102.foc 5 rfl rfl
     have H104 : St w0 _ [_, _, _, _, _, _] w98 := H103.foc 5 rfl rfl
     have H105 : St w0 _ [_, _, _, _, _] w98 := H104.take 5 rfl
     exact lp_next (qd + 1) ⟨v97, _, E96, s1_90, s3_90, rfl, rfl, (by omega), ho100, H105⟩ (by show _ < _; omega)
    ·
     obtain rfl : qd = 9 := by omega
     refine wp_exit ?_
     refine x_then (x_then (x_hit (n_then ?_)))
     refine c_seq ?_
     refine c_reg ?_
     refine sy (v := Ad (bs g4) (0)) (y_move s3_90) ?_
     obtain ⟨s108, s109, hr110⟩ := hBK.rd H90 0 rfl
     refine st (ow_call fn52 rfl (stays_bc g4 tot s108 s109 xs us _ hr110 (by first | omega | simp)) ⟨rfl, trivial⟩) ?_
     rintro _ w106 ⟨rfl, hB107⟩
     have H111 : St w0 _ [_, _, _, _, _] w106 := H90.call hB107
     refine sy (v := .bool (true)) (y_assign rfl) ?_
     refine c_nil ?_
     refine n_then ?_
     refine c_seq ?_
     refine c_seq ?_
     have H112 : St w0 _ [_, _, _, _, _] w106 := H111.foc 4 rfl rfl
     obtain ⟨EX7, ER7, hox7, H113⟩ := OX.of htl H112
     refine c_reg ?_
     refine sy (v := I ((0 : Nat) : Int)) (y_assign (v := I ((0 : Nat) : Int)) rfl) ?_
     refine c_nil ?_
     refine n_then ?_
     refine wp_block ?_
     refine c_loop (fun (ie : Nat) f114 w115 => ∃ (E7 : Part), f114 1 = Ad (bs g1) (0) ∧ f114 15 = .bool (true) ∧ f114 16 = I ((ie : Nat) : Int) ∧ ie ≤ 1 ∧ OX 74 5 lv 1 E7 ∧ St w0 X [E7, ER7, EK, [(g1, Rw 41 ([I (n), lv]))], G0, R0] w115) (fun ie => 1 - ie) 0 ⟨_, s1_90, rfl, rfl, (by omega), hox7, H113⟩ ?_
     rintro ie f114 w115 ⟨E7, s1_116, s15_116, s16_116, hie, ho7, H116⟩
     refine c_seq ?_
     refine c_seq ?_
     obtain ⟨cs117, hrd118⟩ := OX.rd ho7 H116 0 rfl
     refine c_reg ?_
     refine sy (v := I ((ie : Nat) : Int)) (y_move s16_116) ?_
     refine sy (v := Ad (bs g1) (0 + 1)) (y_fld Try.underlying41 rfl rfl sz39 (by decide) s1_116) ?_
     refine sy (v := lv) (y_load sc39 rfl (H116.cell 3 rfl rfl)) ?_
     refine sy (v := I ((1 : Nat) : Int)) (y_lenR Try.underlying39 hrd118 rfl) ?_
     refine sy (v := .bool (decide (ie < 1))) (n_lss (a := ie) (b := 1) rfl rfl) ?_
     refine c_nil ?_
     refine n_then ?_
     refine c_if rfl (fun hc119 => ?_) (fun hc119 => ?_)
     ·
      refine wp_skip ?_
      refine n_then ?_
      refine c_seq ?_
      refine wp_block ?_
      obtain ⟨cs120, hrd121⟩ := OX.rd ho7 H116 0 rfl
      refine c_reg ?_
      refine sy (v := Ad (bs g1) (0 + 1)) (y_fld Try.underlying41 rfl rfl sz39 (by decide) s1_116) ?_
      refine sy (v := lv) (y_load sc39 rfl (H116.cell 3 rfl rfl)) ?_
      refine sy (v := I ((ie : Nat) : Int)) (y_move s16_116) ?_
      refine sy (v := .agg ([I (-9), I ((0 : Nat) : Int), .string .empty, .slice none 0 0, .slice none 0 0]).toArray) (y_build (pv := [(0, I (-9))]) (us := [I (-9), I ((0 : Nat) : Int), .string (.empty), .slice none 0 0, .slice none 0 0]) ⟨⟨rfl, rfl⟩, trivial⟩ (by kernel_rfl)) ?_
      refine sy (v := Ad (sp (lv)) (ie * 5)) (y_ixR (m := ie) Try.underlying39 sz74 hrd121 (by decide) rfl rfl rfl (by omega)) ?_
      refine s0 (ow_storeOX (i := ie) (us := [I (-9), I ((0 : Nat) : Int), .string (.empty), .slice none 0 0, .slice none 0 0]) ho7 H116 sz74 rfl (by omega) rfl rfl (by simp [Value.oneCell']) rfl (by omega)) ?_
      rintro _ w123 ⟨E122, ho125, H124⟩
      refine c_nil ?_
      refine n_block (n_then ?_)
      refine c_reg ?_
      refine sy (v := I ((ie : Nat) : Int)) (y_move s16_116) ?_
      refine sy (v := I ((ie + 1 : Nat) : Int)) (n_add (a := ie) (b := 1) rfl rfl (by omega)) ?_
      refine sy (v := I ((ie + 1 : Nat) : Int)) (y_assign rfl) ?_
      refine c_nil ?_
      exact lp_next (ie + 1) ⟨E122, s1_116, s15_116, rfl, (by omega), ho125, H124⟩ (by show _ < _; omega)
     ·
      refine wp_exit ?_
      refine x_then (x_then (x_hit (n_then ?_)))
      refine c_seq ?_
      refine c_reg ?_
      refine sy (v := .bool (true)) (y_move s15_116) ?_
      refine sy (v := .bool (true)) (y_assign rfl) ?_
      refine c_nil ?_
      refine n_then ?_
      refine wp_ret ?_
      refine e_r1 Try.results48 (rv_t rfl) ?_
      exact ⟨_, rfl, rfl, H116.take 0 rfl⟩

set_option maxHeartbeats 8000000 in
set_option maxRecDepth 20000 in
theorem spoil2_c (X : List Nat) (w0 w : World) (n : Int) (lv : Value) (f0 f1 : Lf) (E Ev0 Ep0 Ev1 Ep1 : Part) (H : St w0 X [Ev0, Ep0, Ev1, Ep1, E] w) (hE : OS 74 5 lv 2 (([f0, f1] : List Lf).flatMap Lf.cs) E) (hv0 : OS 5 1 f0.cell.v f0.cell.c.l.length (f0.cell.c.l.map B8) Ev0) (hp0 : OS 26 32 f0.pv f0.path.length (f0.path.flatten.map B8) Ep0) (hh0 : H32 f0.path) (hb0 : f0.cell.c.l.length ≤ 134217728) (hn0 : f0.path.length ≤ 1099511627776) (hv1 : OS 5 1 f1.cell.v f1.cell.c.l.length (f1.cell.c.l.map B8) Ev1) (hp1 : OS 26 32 f1.pv f1.path.length (f1.path.flatten.map B8) Ep1) (hh1 : H32 f1.path) (hb1 : f1.cell.c.l.length ≤ 134217728) (hn1 : f1.path.length ≤ 1099511627776) :
    Calls Try.prog 48 (([.agg ([I n, lv]).toArray] : List Value).toArray) w (fun e w' => ∃ v, e = .returned v ∧ v = .bool true ∧ St w0 X [] w') := by
 refine calls_mk Try.func48 rfl 128 Try.ntmps48 rfl ?_
 have H0 : St w0 X [Ev0, Ep0, Ev1, Ep1, E] w := H
 refine c_seq ?_
 refine c_reg ?_
 refine st (ow_box (l := [I (n), lv]) H0 rfl rfl) ?_
 rintro _ w2 ⟨g1, rfl, H3⟩
 refine sy (v := .bool (false)) (y_assign (v := .bool (false)) rfl) ?_
 refine c_nil ?_
 refine n_then ?_
 refine c_seq ?_
 refine c_reg ?_
 refine sy (v := .agg ([.slice none 0 0, .slice none 0 0, I ((0 : Nat) : Int), .bool false]).toArray) (y_build (parts := []) (pv := []) (us := [.slice none 0 0, .slice none 0 0, I ((0 : Nat) : Int), .bool (false)]) trivial (by kernel_rfl)) ?_
 refine st (ow_box (l := [.slice none 0 0, .slice none 0 0, I ((0 : Nat) : Int), .bool (false)]) H3 rfl rfl) ?_
 rintro _ w5 ⟨g4, rfl, H6⟩
 refine sy (v := Ad (bs g4) (0)) (y_assign rfl) ?_
 refine c_nil ?_
 refine n_then ?_
 refine c_seq ?_
 refine c_seq ?_
 refine c_reg ?_
 refine sy (v := I ((0 : Nat) : Int)) (y_assign (v := I ((0 : Nat) : Int)) rfl) ?_
 refine c_nil ?_
 refine n_then ?_
 refine wp_block ?_
 refine c_loop (fun (i : Nat) f7 w8 => ∃ (tot : Nat), ∃ (xs : List Value), ∃ (us : List Value), ∃ (EK : Part), ∃ (G0 : Part), ∃ (Q0 : Part), ∃ (G1 : Part), ∃ (Q1 : Part), f7 1 = Ad (bs g1) (0) ∧ f7 3 = Ad (bs g4) (0) ∧ f7 4 = I ((i : Nat) : Int) ∧ i ≤ 2 ∧ BookA g4 tot xs us EK ∧ xs.length ≤ i ∧ tot ≤ i * 134217728 ∧ (if 0 < i then G0 = [] else OS 5 1 f0.cell.v f0.cell.c.l.length (f0.cell.c.l.map B8) G0) ∧ OS 26 32 f0.pv f0.path.length ((if 0 < i then (List.replicate f0.path.length (hcB (b8 ((0 + 1 : Nat) : Int)))) else f0.path).flatten.map B8) Q0 ∧ (if 1 < i then G1 = [] else OS 5 1 f1.cell.v f1.cell.c.l.length (f1.cell.c.l.map B8) G1) ∧ OS 26 32 f1.pv f1.path.length ((if 1 < i then (List.replicate f1.path.length (hcB (b8 ((1 + 1 : Nat) : Int)))) else f1.path).flatten.map B8) Q1 ∧ St w0 X [EK, [(g1, Rw 41 ([I (n), lv]))], G0, Q0, G1, Q1, E] w8) (fun i => 2 - i) 0 ⟨0, [], [], [(g4, Rw 71 [.slice none 0 0, .slice none 0 0, I ((0 : Nat) : Int), .bool false])], Ev0, Ep0, Ev1, Ep1, rfl, rfl, rfl, (by omega), (booka_new g4), (by simp), (by omega), hv0, hp0, hv1, hp1, H6⟩ ?_
 rintro i f7 w8 ⟨tot, xs, us, EK, G0, Q0, G1, Q1, s1_9, s3_9, s4_9, hi, hBK, hxl, htot, hV0, hQ0, hV1, hQ1, H9⟩
 refine c_seq ?_
 refine c_seq ?_
 refine c_reg ?_
 refine sy (v := I ((i : Nat) : Int)) (y_move s4_9) ?_
 refine sy (v := Ad (bs g1) (0 + 1)) (y_fld Try.underlying41 rfl rfl sz39 (by decide) s1_9) ?_
 refine sy (v := lv) (y_load sc39 rfl (H9.cell 1 rfl rfl)) ?_
 refine sy (v := I ((2 : Nat) : Int)) (y_lenR Try.underlying39 (hE.rd H9 6 rfl) rfl) ?_
 refine sy (v := .bool (decide (i < 2))) (n_lss (a := i) (b := 2) rfl rfl) ?_
 refine c_nil ?_
 refine n_then ?_
 refine c_if rfl (fun hc10 => ?_) (fun hc10 => ?_)
 ·
  obtain rfl | rfl : i = 0 ∨ i = 1 := by omega
  ·
   have hvx : OS 5 1 f0.cell.v f0.cell.c.l.length (f0.cell.c.l.map B8) G0 := hV0
   have hpx : OS 26 32 f0.pv f0.path.length (f0.path.flatten.map B8) Q0 := hQ0
   have hbx := hb0
   refine wp_skip ?_
   refine n_then ?_
   refine c_seq ?_
   refine wp_block ?_
   refine c_seq ?_
   refine c_reg ?_
   refine sy (v := Ad (bs g4) (0)) (y_move s3_9) ?_
   refine sy (v := Ad (bs g1) (0 + 1)) (y_fld Try.underlying41 rfl rfl sz39 (by decide) s1_9) ?_
   refine sy (v := lv) (y_load sc39 rfl (H9.cell 1 rfl rfl)) ?_
   refine sy (v := I ((0 : Nat) : Int)) (y_move s4_9) ?_
   refine sy (v := Ad (sp (lv)) (0 * 5)) (y_ixR (m := 0) Try.underlying39 sz74 (hE.rd H9 6 rfl) (by decide) rfl rfl rfl (by omega)) ?_
   refine sy (v := Ad (sp (lv)) ((0 * 5) + 1)) (y_fld Try.underlying74 rfl rfl sz48 (by decide) rfl) ?_
   refine sy (v := Ad (sp (lv)) (((0 * 5) + 1) + 2)) (y_fld Try.underlying48 rfl rfl sz23 (by decide) rfl) ?_
   refine sy (v := f0.cell.v) (y_load sc23 rfl ((hE.rd H9 6 rfl).cell _ _ (show (([f0, f1] : List Lf).flatMap Lf.cs)[3]? = _ from rfl))) ?_
   have H11 : St w0 _ [_, _, _, _, _, _, _] w8 := H9.foc 6 rfl rfl
   have H12 : St w0 _ [_, _, _, _, _, _, _] w8 := H11.foc 6 rfl rfl
   have H13 : St w0 _ [_, _, _, _, _, _, _] w8 := H12.foc 6 rfl rfl
   have H14 : St w0 _ [_, _, _, _, _, _, _] w8 := H13.foc 6 rfl rfl
   have H15 : St w0 _ [_, _, _, _, _, _, _] w8 := H14.foc 5 rfl rfl
   have H16 : St w0 _ [_, _, _, _, _, _, _] w8 := H15.foc 5 rfl rfl
   have H17 : St w0 _ [_, _, _, _, _, _, _] w8 := H16.foc 6 rfl rfl
   obtain ⟨H18, hd19⟩ := H17.join
   refine st (ow_call fn51 rfl (add_c g4 tot xs us EK G0 (f0.cell.v) f0.cell.c.l _ hBK hvx hd19 (fun p hp => H18.own _ List.mem_cons_self p hp) (by first | omega | (simp only [List.length_nil]; omega)) (by omega)) ⟨rfl, rfl, trivial⟩) ?_
   rintro _ w24 ⟨rfl, tz20, xz21, uz22, EB23, hB26, hlx27, htx28, H25⟩
   have H29 : St w0 _ [_, _, _, _, _, _] w24 := H18.appE H25
   refine c_nil ?_
   refine n_then ?_
   refine c_seq ?_
   refine c_reg ?_
   refine sy (v := Ad (bs g1) (0 + 1)) (y_fld Try.underlying41 rfl rfl sz39 (by decide) s1_9) ?_
   refine sy (v := lv) (y_load sc39 rfl (H29.cell 1 rfl rfl)) ?_
   refine sy (v := I ((0 : Nat) : Int)) (y_move s4_9) ?_
   refine sy (v := Ad (sp (lv)) (0 * 5)) (y_ixR (m := 0) Try.underlying39 sz74 (hE.rd H29 5 rfl) (by decide) rfl rfl rfl (by omega)) ?_
   refine sy (v := Ad (sp (lv)) ((0 * 5) + 4)) (y_fld Try.underlying74 rfl rfl sz72 (by decide) rfl) ?_
   refine sy (v := f0.pv) (y_load sc72 rfl ((hE.rd H29 5 rfl).cell _ _ (show (([f0, f1] : List Lf).flatMap Lf.cs)[4]? = _ from rfl))) ?_
   refine sy (v := f0.pv) (y_assign rfl) ?_
   refine c_nil ?_
   refine n_then ?_
   refine c_seq ?_
   refine c_reg ?_
   refine sy (v := I ((0 : Nat) : Int)) (y_assign (v := I ((0 : Nat) : Int)) rfl) ?_
   refine c_nil ?_
   refine n_then ?_
   refine wp_block ?_
   refine c_loop (fun (k : Nat) f30 w31 => ∃ (EP : Part), f30 1 = Ad (bs g1) (0) ∧ f30 3 = Ad (bs g4) (0) ∧ f30 4 = I ((0 : Nat) : Int) ∧ f30 5 = f0.pv ∧ f30 6 = I ((k : Nat) : Int) ∧ k ≤ f0.path.length ∧ OS 26 32 f0.pv f0.path.length ((fkh (hcB (b8 ((0 + 1 : Nat) : Int))) k f0.path).flatten.map B8) EP ∧ St w0 X [EB23, [(g1, Rw 41 ([I (n), lv]))], EP, G1, Q1, E] w31) (fun k => f0.path.length - k) 0 ⟨_, s1_9, s3_9, s4_9, rfl, rfl, (Nat.zero_le _), hpx, H29⟩ ?_
   rintro k f30 w31 ⟨EP, s1_32, s3_32, s4_32, s5_32, s6_32, hk, hoK, H32⟩
   have hfl : (fkh (hcB (b8 ((0 + 1 : Nat) : Int))) k f0.path).length = f0.path.length := fkh_len (by omega)
   refine c_seq ?_
   refine c_seq ?_
   refine c_reg ?_
   refine sy (v := I ((k : Nat) : Int)) (y_move s6_32) ?_
   refine sy (v := f0.pv) (y_move s5_32) ?_
   refine sy (v := I ((f0.path.length : Nat) : Int)) (y_lenR Try.underlying72 (hoK.rd H32 2 rfl) rfl) ?_
   refine sy (v := .bool (decide (k < f0.path.length))) (n_lss (a := k) (b := f0.path.length) rfl rfl) ?_
   refine c_nil ?_
   refine n_then ?_
   refine c_if rfl (fun hc33 => ?_) (fun hc33 => ?_)
   ·
    refine wp_skip ?_
    refine n_then ?_
    refine c_seq ?_
    refine wp_block ?_
    refine c_reg ?_
    refine sy (v := f0.pv) (y_move s5_32) ?_
    refine sy (v := I ((k : Nat) : Int)) (y_move s6_32) ?_
    refine sy (v := I ((0 : Nat) : Int)) (y_move s4_32) ?_
    refine sy (v := I ((0 + 1 : Nat) : Int)) (n_add (a := 0) (b := 1) rfl rfl (by omega)) ?_
    refine sy (v := B8 (b8 ((0 + 1 : Nat)))) (y_conv_I_8 Try.underlying3 Try.underlying5 rfl) ?_
    refine sy (v := .agg (((hcB (b8 ((0 + 1 : Nat) : Int)))).map B8).toArray) (y_build (pv := [(0, B8 (b8 ((0 + 1 : Nat) : Int)))]) (us := (hcB (b8 ((0 + 1 : Nat) : Int))).map B8) ⟨⟨rfl, rfl⟩, trivial⟩ (by kernel_rfl)) ?_
    refine sy (v := Ad (sp (f0.pv)) (k * 32)) (y_ixR (m := k) Try.underlying72 sz26 (hoK.rd H32 2 rfl) (by decide) rfl rfl rfl (by omega)) ?_
    have H38 : St w0 _ [_, _, _, _, _, _] w31 := H32.foc 2 rfl rfl
    refine s0 (ow_storeOSH (i := k) (hs := (fkh (hcB (b8 ((0 + 1 : Nat) : Int))) k f0.path)) (by rw [hfl]; exact hoK) (fkh_h32 (hcB_len _) hh0) H38 sz26 (hcB_len _) rfl rfl rfl (by omega)) ?_
    rintro _ w35 ⟨E34, ho37', H36⟩
    have ho37 : OS 26 32 f0.pv f0.path.length ((fkh (hcB (b8 ((0 + 1 : Nat) : Int))) (k + 1) f0.path).flatten.map B8) E34 := by have h := ho37'; rw [fkh_step (by omega), fkh_len (by omega)] at h; exact h
    refine c_nil ?_
    refine n_block (n_then ?_)
    refine c_reg ?_
    refine sy (v := I ((k : Nat) : Int)) (y_move s6_32) ?_
    refine sy (v := I ((k + 1 : Nat) : Int)) (n_add (a := k) (b := 1) rfl rfl (by omega)) ?_
    refine sy (v := I ((k + 1 : Nat) : Int)) (y_assign rfl) ?_
    refine c_nil ?_
    have H39 : St w0 _ [_, _, _, _, _, _] w35 := H36.foc 5 rfl rfl
    have H40 : St w0 _ [_, _, _, _, _, _] w35 := H39.foc 5 rfl rfl
    have H41 : St w0 _ [_, _, _, _, _, _] w35 := H40.foc 5 rfl rfl
    have H42 : St w0 _ [_, _, _, _, _, _] w35 := H41.foc 3 rfl rfl
    have H43 : St w0 _ [_, _, _, _, _, _] w35 := H42.foc 5 rfl rfl
    have H44 : St w0 _ [_, _, _, _, _, _] w35 := H43.foc 5 rfl rfl
    exact lp_next (k + 1) ⟨E34, s1_32, s3_32, s4_32, s5_32, rfl, (by omega), ho37, H44⟩ (by show _ < _; omega)
   ·
    obtain rfl : k = f0.path.length := by omega
    have hQE : OS 26 32 f0.pv f0.path.length ((List.replicate f0.path.length (hcB (b8 ((0 + 1 : Nat) : Int)))).flatten.map B8) EP := by rw [fkh_end] at hoK; exact hoK
    refine wp_exit ?_
    refine x_then (x_then (x_hit (n_block (n_then ?_))))
    refine c_reg ?_
    refine sy (v := I ((0 : Nat) : Int)) (y_move s4_32) ?_
    refine sy (v := I ((0 + 1 : Nat) : Int)) (n_add (a := 0) (b := 1) rfl rfl (by omega)) ?_
    refine sy (v := I ((0 + 1 : Nat) : Int)) (y_assign rfl) ?_
    refine c_nil ?_
    have H45 : St w0 _ [_, _, _, _, _, _, _] w31 := H32.nilp
    have H46 : St w0 _ [_, _, _, _, _, _, _] w31 := H45.foc 6 rfl rfl
    have H47 : St w0 _ [_, _, _, _, _, _, _] w31 := H46.foc 6 rfl rfl
    have H48 : St w0 _ [_, _, _, _, _, _, _] w31 := H47.foc 6 rfl rfl
    have H49 : St w0 _ [_, _, _, _, _, _, _] w31 := H48.foc 6 rfl rfl
    have H50 : St w0 _ [_, _, _, _, _, _, _] w31 := H49.foc 4 rfl rfl
    have H51 : St w0 _ [_, _, _, _, _, _, _] w31 := H50.foc 6 rfl rfl
    have H52 : St w0 _ [_, _, _, _, _, _, _] w31 := H51.foc 6 rfl rfl
    exact lp_next (0 + 1) ⟨tz20, xz21, uz22, EB23, [], EP, G1, Q1, s1_32, s3_32, rfl, (by omega), hB26, (by omega), (by omega), rfl, hQE, hV1, hQ1, H52⟩ (by show _ < _; omega)
  ·
   have hvx : OS 5 1 f1.cell.v f1.cell.c.l.length (f1.cell.c.l.map B8) G1 := hV1
   have hpx : OS 26 32 f1.pv f1.path.length (f1.path.flatten.map B8) Q1 := hQ1
   have hbx := hb1
   refine wp_skip ?_
   refine n_then ?_
   refine c_seq ?_
   refine wp_block ?_
   refine c_seq ?_
   refine c_reg ?_
   refine sy (v := Ad (bs g4) (0)) (y_move s3_9) ?_
   refine sy (v := Ad (bs g1) (0 + 1)) (y_fld Try.underlying41 rfl rfl sz39 (by decide) s1_9) ?_
   refine sy (v := lv) (y_load sc39 rfl (H9.cell 1 rfl rfl)) ?_
   refine sy (v := I ((1 : Nat) : Int)) (y_move s4_9) ?_
   refine sy (v := Ad (sp (lv)) (1 * 5)) (y_ixR (m := 1) Try.underlying39 sz74 (hE.rd H9 6 rfl) (by decide) rfl rfl rfl (by omega)) ?_
   refine sy (v := Ad (sp (lv)) ((1 * 5) + 1)) (y_fld Try.underlying74 rfl rfl sz48 (by decide) rfl) ?_
   refine sy (v := Ad (sp (lv)) (((1 * 5) + 1) + 2)) (y_fld Try.underlying48 rfl rfl sz23 (by decide) rfl) ?_
   refine sy (v := f1.cell.v) (y_load sc23 rfl ((hE.rd H9 6 rfl).cell _ _ (show (([f0, f1] : List Lf).flatMap Lf.cs)[8]? = _ from rfl))) ?_
   have H53 : St w0 _ [_, _, _, _, _, _, _] w8 := H9.foc 6 rfl rfl
   have H54 : St w0 _ [_, _, _, _, _, _, _] w8 := H53.foc 6 rfl rfl
   have H55 : St w0 _ [_, _, _, _, _, _, _] w8 := H54.foc 5 rfl rfl
   have H56 : St w0 _ [_, _, _, _, _, _, _] w8 := H55.foc 5 rfl rfl
   have H57 : St w0 _ [_, _, _, _, _, _, _] w8 := H56.foc 5 rfl rfl
   have H58 : St w0 _ [_, _, _, _, _, _, _] w8 := H57.foc 5 rfl rfl
   have H59 : St w0 _ [_, _, _, _, _, _, _] w8 := H58.foc 6 rfl rfl
   obtain ⟨H60, hd61⟩ := H59.join
   refine st (ow_call fn51 rfl (add_c g4 tot xs us EK G1 (f1.cell.v) f1.cell.c.l _ hBK hvx hd61 (fun p hp => H60.own _ List.mem_cons_self p hp) (by first | omega | (simp only [List.length_nil]; omega)) (by omega)) ⟨rfl, rfl, trivial⟩) ?_
   rintro _ w66 ⟨rfl, tz62, xz63, uz64, EB65, hB68, hlx69, htx70, H67⟩
   have H71 : St w0 _ [_, _, _, _, _, _] w66 := H60.appE H67
   refine c_nil ?_
   refine n_then ?_
   refine c_seq ?_
   refine c_reg ?_
   refine sy (v := Ad (bs g1) (0 + 1)) (y_fld Try.underlying41 rfl rfl sz39 (by decide) s1_9) ?_
   refine sy (v := lv) (y_load sc39 rfl (H71.cell 1 rfl rfl)) ?_
   refine sy (v := I ((1 : Nat) : Int)) (y_move s4_9) ?_
   refine sy (v := Ad (sp (lv)) (1 * 5)) (y_ixR (m := 1) Try.underlying39 sz74 (hE.rd H71 5 rfl) (by decide) rfl rfl rfl (by omega)) ?_
   refine sy (v := Ad (sp (lv)) ((1 * 5) + 4)) (y_fld Try.underlying74 rfl rfl sz72 (by decide) rfl) ?_
   refine sy (v := f1.pv) (y_load sc72 rfl ((hE.rd H71 5 rfl).cell _ _ (show (([f0, f1] : List Lf).flatMap Lf.cs)[9]? = _ from rfl))) ?_
   refine sy (v := f1.pv) (y_assign rfl) ?_
   refine c_nil ?_
   refine n_then ?_
   refine c_seq ?_
   refine c_reg ?_
   refine sy (v := I ((0 : Nat) : Int)) (y_assign (v := I ((0 : Nat) : Int)) rfl) ?_
   refine c_nil ?_
   refine n_then ?_
   refine wp_block ?_
   refine c_loop (fun (k : Nat) f72 w73 => ∃ (EP : Part), f72 1 = Ad (bs g1) (0) ∧ f72 3 = Ad (bs g4) (0) ∧ f72 4 = I ((1 : Nat) : Int) ∧ f72 5 = f1.pv ∧ f72 6 = I ((k : Nat) : Int) ∧ k ≤ f1.path.length ∧ OS 26 32 f1.pv f1.path.length ((fkh (hcB (b8 ((1 + 1 : Nat) : Int))) k f1.path).flatten.map B8) EP ∧ St w0 X [EB65, [(g1, Rw 41 ([I (n), lv]))], G0, Q0, EP, E] w73) (fun k => f1.path.length - k) 0 ⟨_, s1_9, s3_9, s4_9, rfl, rfl, (Nat.zero_le _), hpx, H71⟩ ?_
   rintro k f72 w73 ⟨EP, s1_74, s3_74, s4_74, s5_74, s6_74, hk, hoK, H74⟩
   have hfl : (fkh (hcB (b8 ((1 + 1 : Nat) : Int))) k f1.path).length = f1.path.length := fkh_len (by omega)
   refine c_seq ?_
   refine c_seq ?_
   refine c_reg ?_
   refine sy (v := I ((k : Nat) : Int)) (y_move s6_74) ?_
   refine sy (v := f1.pv) (y_move s5_74) ?_
   refine sy (v := I ((f1.path.length : Nat) : Int)) (y_lenR Try.underlying72 (hoK.rd H74 4 rfl) rfl) ?_
   refine sy (v := .bool (decide (k < f1.path.length))) (n_lss (a := k) (b := f1.path.length) rfl rfl) ?_
   refine c_nil ?_
   refine n_then ?_
   refine c_if rfl (fun hc75 => ?_) (fun hc75 => ?_)
   ·
    refine wp_skip ?_
    refine n_then ?_
    refine c_seq ?_
    refine wp_block ?_
    refine c_reg ?_
    refine sy (v := f1.pv) (y_move s5_74) ?_
    refine sy (v := I ((k : Nat) : Int)) (y_move s6_74) ?_
    refine sy (v := I ((1 : Nat) : Int)) (y_move s4_74) ?_
    refine sy (v := I ((1 + 1 : Nat) : Int)) (n_add (a := 1) (b := 1) rfl rfl (by omega)) ?_
    refine sy (v := B8 (b8 ((1 + 1 : Nat)))) (y_conv_I_8 Try.underlying3 Try.underlying5 rfl) ?_
    refine sy (v := .agg (((hcB (b8 ((1 + 1 : Nat) : Int)))).map B8).toArray) (y_build (pv := [(0, B8 (b8 ((1 + 1 : Nat) : Int)))]) (us := (hcB (b8 ((1 + 1 : Nat) : Int))).map B8) ⟨⟨rfl, rfl⟩, trivial⟩ (by kernel_rfl)) ?_
    refine sy (v := Ad (sp (f1.pv)) (k * 32)) (y_ixR (m := k) Try.underlying72 sz26 (hoK.rd H74 4 rfl) (by decide) rfl rfl rfl (by omega)) ?_
    have H80 : St w0 _ [_, _, _, _, _, _] w73 := H74.foc 4 rfl rfl
    refine s0 (ow_storeOSH (i := k) (hs := (fkh (hcB (b8 ((1 + 1 : Nat) : Int))) k f1.path)) (by rw [hfl]; exact hoK) (fkh_h32 (hcB_len _) hh1) H80 sz26 (hcB_len _) rfl rfl rfl (by omega)) ?_
    rintro _ w77 ⟨E76, ho79', H78⟩
    have ho79 : OS 26 32 f1.pv f1.path.length ((fkh (hcB (b8 ((1 + 1 : Nat) : Int))) (k + 1) f1.path).flatten.map B8) E76 := by have h := ho79'; rw [fkh_step (by omega), fkh_len (by omega)] at h; exact h
    refine c_nil ?_
    refine n_block (n_then ?_)
    refine c_reg ?_
    refine sy (v := I ((k : Nat) : Int)) (y_move s6_74) ?_
    refine sy (v := I ((k + 1 : Nat) : Int)) (n_add (a := k) (b := 1) rfl rfl (by omega)) ?_
    refine sy (v := I ((k + 1 : Nat) : Int)) (y_assign rfl) ?_
    refine c_nil ?_
    have H81 : St w0 _ [_, _, _, _, _, _] w77 := H78.foc 5 rfl rfl
    have H82 : St w0 _ [_, _, _, _, _, _] w77 := H81.foc 1 rfl rfl
    have H83 : St w0 _ [_, _, _, _, _, _] w77 := H82.foc 5 rfl rfl
    have H84 : St w0 _ [_, _, _, _, _, _] w77 := H83.foc 5 rfl rfl
    have H85 : St w0 _ [_, _, _, _, _, _] w77 := H84.foc 5 rfl rfl
    have H86 : St w0 _ [_, _, _, _, _, _] w77 := H85.foc 5 rfl rfl
    exact lp_next (k + 1) ⟨E76, s1_74, s3_74, s4_74, s5_74, rfl, (by omega), ho79, H86⟩ (by show _ < _; omega)
   ·
    obtain rfl : k = f1.path.length := by omega
    have hQE : OS 26 32 f1.pv f1.path.length ((List.replicate f1.path.length (hcB (b8 ((1 + 1 : Nat) : Int)))).flatten.map B8) EP := by rw [fkh_end] at hoK; exact hoK
    refine wp_exit ?_
    refine x_then (x_then (x_hit (n_block (n_then ?_))))
    refine c_reg ?_
    refine sy (v := I ((1 : Nat) : Int)) (y_move s4_74) ?_
    refine sy (v := I ((1 + 1 : Nat) : Int)) (n_add (a := 1) (b := 1) rfl rfl (by omega)) ?_
    refine sy (v := I ((1 + 1 : Nat) : Int)) (y_assign rfl) ?_
    refine c_nil ?_
    have H87 : St w0 _ [_, _, _, _, _, _, _] w73 := H74.nilp
    have H88 : St w0 _ [_, _, _, _, _, _, _] w73 := H87.foc 6 rfl rfl
    have H89 : St w0 _ [_, _, _, _, _, _, _] w73 := H88.foc 6 rfl rfl
    have H90 : St w0 _ [_, _, _, _, _, _, _] w73 := H89.foc 2 rfl rfl
    have H91 : St w0 _ [_, _, _, _, _, _, _] w73 := H90.foc 6 rfl rfl
    have H92 : St w0 _ [_, _, _, _, _, _, _] w73 := H91.foc 6 rfl rfl
    have H93 : St w0 _ [_, _, _, _, _, _, _] w73 := H92.foc 6 rfl rfl
    have H94 : St w0 _ [_, _, _, _, _, _, _] w73 := H93.foc 6 rfl rfl
    exact lp_next (1 + 1) ⟨tz62, xz63, uz64, EB65, G0, Q0, [], EP, s1_74, s3_74, rfl, (by omega), hB68, (by omega), (by omega), hV0, hQ0, rfl, hQE, H94⟩ (by show _ < _; omega)
 ·
  obtain rfl : i = 2 := by omega
  have hP0 : OS 26 32 f0.pv f0.path.length ((List.replicate f0.path.length (hcB (b8 ((0 + 1 : Nat) : Int)))).flatten.map B8) Q0 := hQ0
  have hP1 : OS 26 32 f1.pv f1.path.length ((List.replicate f1.path.length (hcB (b8 ((1 + 1 : Nat) : Int)))).flatten.map B8) Q1 := hQ1
  refine wp_exit ?_
  refine x_then (x_then (x_hit (n_then ?_)))
  refine c_seq ?_
  refine c_seq ?_
  refine c_reg ?_
  refine sy (v := I ((0 : Nat) : Int)) (y_assign (v := I ((0 : Nat) : Int)) rfl) ?_
  refine c_nil ?_
  refine n_then ?_
  refine wp_block ?_
  refine c_loop (fun (ib : Nat) f95 w96 => ∃ (R0 : Part), ∃ (R1 : Part), f95 1 = Ad (bs g1) (0) ∧ f95 3 = Ad (bs g4) (0) ∧ f95 7 = I ((ib : Nat) : Int) ∧ ib ≤ 2 ∧ OS 26 32 f0.pv f0.path.length ((List.replicate f0.path.length (hcB (b8 ((0 + 1 : Nat) : Int)))).flatten.map B8) R0 ∧ OS 26 32 f1.pv f1.path.length ((List.replicate f1.path.length (hcB (b8 ((1 + 1 : Nat) : Int)))).flatten.map B8) R1 ∧ St w0 X [EK, [(g1, Rw 41 ([I (n), lv]))], G0, R0, G1, R1, E] w96) (fun ib => 2 - ib) 0 ⟨_, _, s1_9, s3_9, rfl, (by omega), hP0, hP1, H9⟩ ?_
  rintro ib f95 w96 ⟨R0, R1, s1_97, s3_97, s7_97, hib, hr0, hr1, H97⟩
  refine c_seq ?_
  refine c_seq ?_
  refine c_reg ?_
  refine sy (v := I ((ib : Nat) : Int)) (y_move s7_97) ?_
  refine sy (v := Ad (bs g1) (0 + 1)) (y_fld Try.underlying41 rfl rfl sz39 (by decide) s1_97) ?_
  refine sy (v := lv) (y_load sc39 rfl (H97.cell 1 rfl rfl)) ?_
  refine sy (v := I ((2 : Nat) : Int)) (y_lenR Try.underlying39 (hE.rd H97 6 rfl) rfl) ?_
  refine sy (v := .bool (decide (ib < 2))) (n_lss (a := ib) (b := 2) rfl rfl) ?_
  refine c_nil ?_
  refine n_then ?_
  refine c_if rfl (fun hc98 => ?_) (fun hc98 => ?_)
  ·
   obtain rfl | rfl : ib = 0 ∨ ib = 1 := by omega
   ·
    have hrl : ((List.replicate f0.path.length (hcB (b8 ((0 + 1 : Nat) : Int))))).length = f0.path.length := List.length_replicate (n := f0.path.length) (a := (hcB (b8 ((0 + 1 : Nat) : Int))))
    refine wp_skip ?_
    refine n_then ?_
    refine c_seq ?_
    refine wp_block ?_
    refine c_seq ?_
    refine c_reg ?_
    refine sy (v := Ad (bs g1) (0 + 1)) (y_fld Try.underlying41 rfl rfl sz39 (by decide) s1_97) ?_
    refine sy (v := lv) (y_load sc39 rfl (H97.cell 1 rfl rfl)) ?_
    refine sy (v := I ((0 : Nat) : Int)) (y_move s7_97) ?_
    refine sy (v := Ad (sp (lv)) (0 * 5)) (y_ixR (m := 0) Try.underlying39 sz74 (hE.rd H97 6 rfl) (by decide) rfl rfl rfl (by omega)) ?_
    refine sy (v := Ad (sp (lv)) ((0 * 5) + 4)) (y_fld Try.underlying74 rfl rfl sz72 (by decide) rfl) ?_
    refine sy (v := f0.pv) (y_load sc72 rfl ((hE.rd H97 6 rfl).cell _ _ (show (([f0, f1] : List Lf).flatMap Lf.cs)[4]? = _ from rfl))) ?_
    refine sy (v := f0.pv) (y_assign rfl) ?_
    refine c_nil ?_
    refine n_then ?_
    refine c_seq ?_
    refine c_reg ?_
    refine sy (v := I ((0 : Nat) : Int)) (y_assign (v := I ((0 : Nat) : Int)) rfl) ?_
    refine c_nil ?_
    refine n_then ?_
    refine wp_block ?_
    refine c_loop (fun (q : Nat) f99 w100 => ∃ (uv : Value), ∃ (zs : List Value), ∃ (EZ : Part), f99 1 = Ad (bs g1) (0) ∧ f99 3 = Ad (bs g4) (0) ∧ f99 7 = I ((0 : Nat) : Int) ∧ f99 8 = uv ∧ f99 9 = I ((q : Nat) : Int) ∧ q ≤ 20 ∧ TS 26 32 f0.pv f0.path.length ((List.replicate f0.path.length (hcB (b8 ((0 + 1 : Nat) : Int)))).flatten.map B8) uv (f0.path.length + q) zs EZ ∧ St w0 X [EK, [(g1, Rw 41 ([I (n), lv]))], G0, EZ, G1, R1, E] w100) (fun q => 20 - q) 0 ⟨_, _, _, s1_97, s3_97, s7_97, rfl, rfl, (by omega), (TS.refl hr0), H97⟩ ?_
    rintro q f99 w100 ⟨uv, zs, EZ, s1_101, s3_101, s7_101, s8_101, s9_101, hq, hts, H101⟩
    refine c_seq ?_
    refine c_seq ?_
    refine c_reg ?_
    refine sy (v := I ((q : Nat) : Int)) (y_move s9_101) ?_
    refine sy (v := .bool (decide (q < 20))) (n_lss (a := q) (b := 20) rfl rfl) ?_
    refine c_nil ?_
    refine n_then ?_
    refine c_if rfl (fun hc102 => ?_) (fun hc102 => ?_)
    ·
     refine wp_skip ?_
     refine n_then ?_
     refine c_seq ?_
     refine wp_block ?_
     refine c_reg ?_
     refine sy (v := uv) (y_move s8_101) ?_
     refine sy (v := .agg (((hcB 238)).map B8).toArray) (y_build (pv := [(0, B8 (238))]) (us := (hcB (238)).map B8) ⟨⟨rfl, rfl⟩, trivial⟩ (by kernel_rfl)) ?_
     refine st (ow_lit1 (h := (hcB (238))) Try.underlying72 sz26 zr26 H101 rfl (hcB_len _)) ?_
     rintro _ w104 ⟨g103, rfl, H105⟩
     have hh106 : H32 [(hcB (238))] := hh_one (hcB_len _)
     have H107 : St w0 _ [_, _, _, _, _, _, _, _] w104 := H105.foc 4 rfl rfl
     refine st (ow_append_ts (m := 1) Try.underlying72 sz26 zr26 bt26 rfl hts H107 rfl rfl ((rd_hblk (n := 1) H107 1 rfl hh106 rfl (by unfold maxLen; omega)).src Try.underlying72 (map_one (F := B8) (fun _ => rfl) _)) (by omega) (by omega)) ?_
     rintro v109 w110 ⟨E108, ho112, H111⟩
     refine sy (v := v109) (y_assign rfl) ?_
     refine c_nil ?_
     refine n_block (n_then ?_)
     refine c_reg ?_
     refine sy (v := I ((q : Nat) : Int)) (y_move s9_101) ?_
     refine sy (v := I ((q + 1 : Nat) : Int)) (n_add (a := q) (b := 1) rfl rfl (by omega)) ?_
     refine sy (v := I ((q + 1 : Nat) : Int)) (y_assign rfl) ?_
     refine c_nil ?_
     have H113 : St w0 _ [_, _, _, _, _, _, _, _] w110 := H111.foc 7 rfl rfl
     have H114 : St w0 _ [_, _, _, _, _, _, _, _] w110 := H113.foc 7 rfl rfl
     have H115 : St w0 _ [_, _, _, _, _, _, _, _] w110 := H114.foc 7 rfl rfl
     have H116 : St w0 _ [_, _, _, _, _, _, _, _] w110 := H115.foc 3 rfl rfl
     have H117 : St w0 _ [_, _, _, _, _, _, _, _] w110 := H116.foc 7 rfl rfl
     have H118 : St w0 _ [_, _, _, _, _, _, _, _] w110 := H117.foc 7 rfl rfl
     have H119 : St w0 _ [_, _, _, _, _, _, _, _] w110 := H118.foc 7 rfl rfl
     have H120 : St w0 _ [_, _, _, _, _, _, _] w110 := H119.take 7 rfl
     exact lp_next (q + 1) ⟨v109, _, E108, s1_101, s3_101, s7_101, rfl, rfl, (by omega), ho112, H120⟩ (by show _ < _; omega)
    ·
     obtain rfl : q = 20 := by omega
     refine wp_exit ?_
     refine x_then (x_then (x_hit (n_block (n_then ?_))))
     refine c_reg ?_
     refine sy (v := I ((0 : Nat) : Int)) (y_move s7_101) ?_
     refine sy (v := I ((0 + 1 : Nat) : Int)) (n_add (a := 0) (b := 1) rfl rfl (by omega)) ?_
     refine sy (v := I ((0 + 1 : Nat) : Int)) (y_assign rfl) ?_
     refine c_nil ?_
     have H121 : St w0 _ [_, _, _, _, _, _, _] w100 := H101.foc 3 rfl rfl
     obtain ⟨EX, ER, hox, H122⟩ := ts_x hts H121
     have H123 : St w0 _ [_, _, _, _, _, _, _, _] w100 := H122.foc 7 rfl rfl
     have H124 : St w0 _ [_, _, _, _, _, _, _, _] w100 := H123.foc 7 rfl rfl
     have H125 : St w0 _ [_, _, _, _, _, _, _, _] w100 := H124.foc 7 rfl rfl
     have H126 : St w0 _ [_, _, _, _, _, _, _, _] w100 := H125.foc 3 rfl rfl
     have H127 : St w0 _ [_, _, _, _, _, _, _, _] w100 := H126.foc 7 rfl rfl
     have H128 : St w0 _ [_, _, _, _, _, _, _, _] w100 := H127.foc 7 rfl rfl
     have H129 : St w0 _ [_, _, _, _, _, _, _, _] w100 := H128.foc 7 rfl rfl
     have H130 : St w0 _ [_, _, _, _, _, _, _] w100 := H129.take 7 rfl
     exact lp_next (0 + 1) ⟨EX, R1, s1_101, s3_101, rfl, (by omega), hox, hr1, H130⟩ (by show _ < _; omega)
   ·
    have hrl : ((List.replicate f1.path.length (hcB (b8 ((1 + 1 : Nat) : Int))))).length = f1.path.length := List.length_replicate (n := f1.path.length) (a := (hcB (b8 ((1 + 1 : Nat) : Int))))
    refine wp_skip ?_
    refine n_then ?_
    refine c_seq ?_
    refine wp_block ?_
    refine c_seq ?_
    refine c_reg ?_
    refine sy (v := Ad (bs g1) (0 + 1)) (y_fld Try.underlying41 rfl rfl sz39 (by decide) s1_97) ?_
    refine sy (v := lv) (y_load sc39 rfl (H97.cell 1 rfl rfl)) ?_
    refine sy (v := I ((1 : Nat) : Int)) (y_move s7_97) ?_
    refine sy (v := Ad (sp (lv)) (1 * 5)) (y_ixR (m := 1) Try.underlying39 sz74 (hE.rd H97 6 rfl) (by decide) rfl rfl rfl (by omega)) ?_
    refine sy (v := Ad (sp (lv)) ((1 * 5) + 4)) (y_fld Try.underlying74 rfl rfl sz72 (by decide) rfl) ?_
    refine sy (v := f1.pv) (y_load sc72 rfl ((hE.rd H97 6 rfl).cell _ _ (show (([f0, f1] : List Lf).flatMap Lf.cs)[9]? = _ from rfl))) ?_
    refine sy (v := f1.pv) (y_assign rfl) ?_
    refine c_nil ?_
    refine n_then ?_
    refine c_seq ?_
    refine c_reg ?_
    refine sy (v := I ((0 : Nat) : Int)) (y_assign (v := I ((0 : Nat) : Int)) rfl) ?_
    refine c_nil ?_
    refine n_then ?_
    refine wp_block ?_
    refine c_loop (fun (q : Nat) f131 w132 => ∃ (uv : Value), ∃ (zs : List Value), ∃ (EZ : Part), f131 1 = Ad (bs g1) (0) ∧ f131 3 = Ad (bs g4) (0) ∧ f131 7 = I ((1 : Nat) : Int) ∧ f131 8 = uv ∧ f131 9 = I ((q : Nat) : Int) ∧ q ≤ 20 ∧ TS 26 32 f1.pv f1.path.length ((List.replicate f1.path.length (hcB (b8 ((1 + 1 : Nat) : Int)))).flatten.map B8) uv (f1.path.length + q) zs EZ ∧ St w0 X [EK, [(g1, Rw 41 ([I (n), lv]))], G0, R0, G1, EZ, E] w132) (fun q => 20 - q) 0 ⟨_, _, _, s1_97, s3_97, s7_97, rfl, rfl, (by omega), (TS.refl hr1), H97⟩ ?_
    rintro q f131 w132 ⟨uv, zs, EZ, s1_133, s3_133, s7_133, s8_133, s9_133, hq, hts, H133⟩
    refine c_seq ?_
    refine c_seq ?_
    refine c_reg ?_
    refine sy (v := I ((q : Nat) : Int)) (y_move s9_133) ?_
    refine sy (v := .bool (decide (q < 20))) (n_lss (a := q) (b := 20) rfl rfl) ?_
    refine c_nil ?_
    refine n_then ?_
    refine c_if rfl (fun hc134 => ?_) (fun hc134 => ?_)
    ·
     refine wp_skip ?_
     refine n_then ?_
     refine c_seq ?_
     refine wp_block ?_
     refine c_reg ?_
     refine sy (v := uv) (y_move s8_133) ?_
     refine sy (v := .agg (((hcB 238)).map B8).toArray) (y_build (pv := [(0, B8 (238))]) (us := (hcB (238)).map B8) ⟨⟨rfl, rfl⟩, trivial⟩ (by kernel_rfl)) ?_
     refine st (ow_lit1 (h := (hcB (238))) Try.underlying72 sz26 zr26 H133 rfl (hcB_len _)) ?_
     rintro _ w136 ⟨g135, rfl, H137⟩
     have hh138 : H32 [(hcB (238))] := hh_one (hcB_len _)
     have H139 : St w0 _ [_, _, _, _, _, _, _, _] w136 := H137.foc 6 rfl rfl
     refine st (ow_append_ts (m := 1) Try.underlying72 sz26 zr26 bt26 rfl hts H139 rfl rfl ((rd_hblk (n := 1) H139 1 rfl hh138 rfl (by unfold maxLen; omega)).src Try.underlying72 (map_one (F := B8) (fun _ => rfl) _)) (by omega) (by omega)) ?_
     rintro v141 w142 ⟨E140, ho144, H143⟩
     refine sy (v := v141) (y_assign rfl) ?_
     refine c_nil ?_
     refine n_block (n_then ?_)
     refine c_reg ?_
     refine sy (v := I ((q : Nat) : Int)) (y_move s9_133) ?_
     refine sy (v := I ((q + 1 : Nat) : Int)) (n_add (a := q) (b := 1) rfl rfl (by omega)) ?_
     refine sy (v := I ((q + 1 : Nat) : Int)) (y_assign rfl) ?_
     refine c_nil ?_
     have H145 : St w0 _ [_, _, _, _, _, _, _, _] w142 := H143.foc 7 rfl rfl
     have H146 : St w0 _ [_, _, _, _, _, _, _, _] w142 := H145.foc 1 rfl rfl
     have H147 : St w0 _ [_, _, _, _, _, _, _, _] w142 := H146.foc 7 rfl rfl
     have H148 : St w0 _ [_, _, _, _, _, _, _, _] w142 := H147.foc 7 rfl rfl
     have H149 : St w0 _ [_, _, _, _, _, _, _, _] w142 := H148.foc 7 rfl rfl
     have H150 : St w0 _ [_, _, _, _, _, _, _, _] w142 := H149.foc 7 rfl rfl
     have H151 : St w0 _ [_, _, _, _, _, _, _, _] w142 := H150.foc 7 rfl rfl
     have H152 : St w0 _ [_, _, _, _, _, _, _] w142 := H151.take 7 rfl
     exact lp_next (q + 1) ⟨v141, _, E140, s1_133, s3_133, s7_133, rfl, rfl, (by omega), ho144, H152⟩ (by show _ < _; omega)
    ·
     obtain rfl : q = 20 := by omega
     refine wp_exit ?_
     refine x_then (x_then (x_hit (n_block (n_then ?_))))
     refine c_reg ?_
     refine sy (v := I ((1 : Nat) : Int)) (y_move s7_133) ?_
     refine sy (v := I ((1 + 1 : Nat) : Int)) (n_add (a := 1) (b := 1) rfl rfl (by omega)) ?_
     refine sy (v := I ((1 + 1 : Nat) : Int)) (y_assign rfl) ?_
     refine c_nil ?_
     have H153 : St w0 _ [_, _, _, _, _, _, _] w132 := H133.foc 5 rfl rfl
     obtain ⟨EX, ER, hox, H154⟩ := ts_x hts H153
     have H155 : St w0 _ [_, _, _, _, _, _, _, _] w132 := H154.foc 7 rfl rfl
     have H156 : St w0 _ [_, _, _, _, _, _, _, _] w132 := H155.foc 1 rfl rfl
     have H157 : St w0 _ [_, _, _, _, _, _, _, _] w132 := H156.foc 7 rfl rfl
     have H158 : St w0 _ [_, _, _, _, _, _, _, _] w132 := H157.foc 7 rfl rfl
     have H159 : St w0 _ [_, _, _, _, _, _, _, _] w132 := H158.foc 7 rfl rfl
     have H160 : St w0 _ [_, _, _, _, _, _, _, _] w132 := H159.foc 7 rfl rfl
     have H161 : St w0 _ [_, _, _, _, _, _, _, _] w132 := H160.foc 7 rfl rfl
     have H162 : St w0 _ [_, _, _, _, _, _, _] w132 := H161.take 7 rfl
     exact lp_next (1 + 1) ⟨R0, EX, s1_133, s3_133, rfl, (by omega), hr0, hox, H162⟩ (by show _ < _; omega)
  ·
   refine wp_exit ?_
   refine x_then (x_then (x_hit (n_then ?_)))
   refine c_seq ?_
   refine c_seq ?_
   refine c_reg ?_
   refine sy (v := I ((0 : Nat) : Int)) (y_assign (v := I ((0 : Nat) : Int)) rfl) ?_
   refine c_nil ?_
   refine n_then ?_
   refine wp_block ?_
   refine c_loop (fun (ic : Nat) f163 w164 => f163 1 = Ad (bs g1) (0) ∧ f163 3 = Ad (bs g4) (0) ∧ f163 10 = I ((ic : Nat) : Int) ∧ ic ≤ 2 ∧ St w0 X [EK, [(g1, Rw 41 ([I (n), lv]))], G0, R0, G1, R1, E] w164) (fun ic => 2 - ic) 0 ⟨s1_97, s3_97, rfl, (by omega), H97⟩ ?_
   rintro ic f163 w164 ⟨s1_165, s3_165, s10_165, hf0_165, H165⟩
   refine c_seq ?_
   refine c_seq ?_
   refine c_reg ?_
   refine sy (v := I ((ic : Nat) : Int)) (y_move s10_165) ?_
   refine sy (v := Ad (bs g1) (0 + 1)) (y_fld Try.underlying41 rfl rfl sz39 (by decide) s1_165) ?_
   refine sy (v := lv) (y_load sc39 rfl (H165.cell 1 rfl rfl)) ?_
   refine sy (v := I ((2 : Nat) : Int)) (y_lenR Try.underlying39 (hE.rd H165 6 rfl) rfl) ?_
   refine sy (v := .bool (decide (ic < 2))) (n_lss (a := ic) (b := 2) rfl rfl) ?_
   refine c_nil ?_
   refine n_then ?_
   refine c_if rfl (fun hc166 => ?_) (fun hc166 => ?_)
   ·
    obtain rfl | rfl : ic = 0 ∨ ic = 1 := by omega
    ·
     have hrl : ((List.replicate f0.path.length (hcB (b8 ((0 + 1 : Nat) : Int))))).length = f0.path.length := List.length_replicate (n := f0.path.length) (a := (hcB (b8 ((0 + 1 : Nat) : Int))))
     refine wp_skip ?_
     refine n_then ?_
     refine c_seq ?_
     refine wp_block ?_
     refine c_seq ?_
     refine c_reg ?_
     refine sy (v := Ad (bs g1) (0 + 1)) (y_fld Try.underlying41 rfl rfl sz39 (by decide) s1_165) ?_
     refine sy (v := lv) (y_load sc39 rfl (H165.cell 1 rfl rfl)) ?_
     refine sy (v := I ((0 : Nat) : Int)) (y_move s10_165) ?_
     refine sy (v := Ad (sp (lv)) (0 * 5)) (y_ixR (m := 0) Try.underlying39 sz74 (hE.rd H165 6 rfl) (by decide) rfl rfl rfl (by omega)) ?_
     refine sy (v := Ad (sp (lv)) ((0 * 5) + 4)) (y_fld Try.underlying74 rfl rfl sz72 (by decide) rfl) ?_
     refine sy (v := f0.pv) (y_load sc72 rfl ((hE.rd H165 6 rfl).cell _ _ (show (([f0, f1] : List Lf).flatMap Lf.cs)[4]? = _ from rfl))) ?_
     refine sy (v := f0.pv) (y_assign rfl) ?_
     refine c_nil ?_
     refine n_then ?_
     refine c_seq ?_
     refine c_reg ?_
     refine sy (v := I ((0 : Nat) : Int)) (y_assign (v := I ((0 : Nat) : Int)) rfl) ?_
     refine c_nil ?_
     refine n_then ?_
     refine wp_block ?_
     refine c_loop (fun (kc : Nat) f167 w168 => f167 1 = Ad (bs g1) (0) ∧ f167 3 = Ad (bs g4) (0) ∧ f167 10 = I ((0 : Nat) : Int) ∧ f167 11 = f0.pv ∧ f167 12 = I ((kc : Nat) : Int) ∧ kc ≤ f0.path.length ∧ St w0 X [EK, [(g1, Rw 41 ([I (n), lv]))], G0, R0, G1, R1, E] w168) (fun kc => f0.path.length - kc) 0 ⟨s1_165, s3_165, s10_165, rfl, rfl, (Nat.zero_le _), H165⟩ ?_
     rintro kc f167 w168 ⟨s1_169, s3_169, s10_169, s11_169, s12_169, hf0_169, H169⟩
     refine c_seq ?_
     refine c_seq ?_
     refine c_reg ?_
     refine sy (v := I ((kc : Nat) : Int)) (y_move s12_169) ?_
     refine sy (v := f0.pv) (y_move s11_169) ?_
     refine sy (v := I ((f0.path.length : Nat) : Int)) (y_lenR Try.underlying72 (hr0.rd H169 3 rfl) rfl) ?_
     refine sy (v := .bool (decide (kc < f0.path.length))) (n_lss (a := kc) (b := f0.path.length) rfl rfl) ?_
     refine c_nil ?_
     refine n_then ?_
     refine c_if rfl (fun hc170 => ?_) (fun hc170 => ?_)
     ·
      refine wp_skip ?_
      refine n_then ?_
      refine c_seq ?_
      refine wp_block ?_
      refine c_seq ?_
      refine c_reg ?_
      refine sy (v := f0.pv) (y_move s11_169) ?_
      refine sy (v := I ((kc : Nat) : Int)) (y_move s12_169) ?_
      refine sy (v := Ad (sp (f0.pv)) (kc * 32)) (y_ixR (m := kc) Try.underlying72 sz26 (hr0.rd H169 3 rfl) (by decide) rfl rfl rfl (by omega)) ?_
      refine sy (v := .agg (((List.replicate f0.path.length (hcB (b8 ((0 + 1 : Nat) : Int)))).getD kc []).map B8).toArray) (y_loadA (us := ((List.replicate f0.path.length (hcB (b8 ((0 + 1 : Nat) : Int)))).getD kc []).map B8) ag26 sz26 ((List.length_map _).trans (getD_len (rph_h32 (hcB_len _)) (by omega))) rfl (fun j u hu => (hr0.rd H169 3 rfl).cell _ _ (flat_get (rph_h32 (hcB_len _)) (by omega) hu))) ?_
      refine sy (v := I ((0 : Nat) : Int)) (y_move s10_169) ?_
      refine sy (v := I ((0 + 1 : Nat) : Int)) (n_add (a := 0) (b := 1) rfl rfl (by omega)) ?_
      refine sy (v := B8 (b8 ((0 + 1 : Nat)))) (y_conv_I_8 Try.underlying3 Try.underlying5 rfl) ?_
      refine sy (v := .agg (((hcB (b8 ((0 + 1 : Nat) : Int)))).map B8).toArray) (y_build (pv := [(0, B8 (b8 ((0 + 1 : Nat) : Int)))]) (us := (hcB (b8 ((0 + 1 : Nat) : Int))).map B8) ⟨⟨rfl, rfl⟩, trivial⟩ (by kernel_rfl)) ?_
      refine sy (v := .bool (decide (((List.replicate f0.path.length (hcB (b8 ((0 + 1 : Nat) : Int)))).getD kc []) ≠ (hcB (b8 ((0 + 1 : Nat) : Int)))))) (y_neqArr (l1 := (List.replicate f0.path.length (hcB (b8 ((0 + 1 : Nat) : Int)))).getD kc []) (l2 := (hcB (b8 ((0 + 1 : Nat) : Int)))) Try.underlying26 sz5 sc5 Try.underlying5 gt26 (getD_len (rph_h32 (hcB_len _)) (by omega)) (hcB_len _) rfl rfl) ?_
      refine c_nil ?_
      refine n_then ?_
      have hq171 : ¬ (((List.replicate f0.path.length (hcB (b8 ((0 + 1 : Nat) : Int)))).getD kc []) ≠ (hcB (b8 ((0 + 1 : Nat) : Int)))) := (not_not_intro (rph_get (by omega)))
      refine c_f rfl (decide_eq_false hq171) ?_
      refine wp_skip ?_
      refine n_block (n_then ?_)
      refine c_reg ?_
      refine sy (v := I ((kc : Nat) : Int)) (y_move s12_169) ?_
      refine sy (v := I ((kc + 1 : Nat) : Int)) (n_add (a := kc) (b := 1) rfl rfl (by omega)) ?_
      refine sy (v := I ((kc + 1 : Nat) : Int)) (y_assign rfl) ?_
      refine c_nil ?_
      exact lp_next (kc + 1) ⟨s1_169, s3_169, s10_169, s11_169, rfl, (by omega), H169⟩ (by show _ < _; omega)
     ·
      refine wp_exit ?_
      refine x_then (x_then (x_hit (n_block (n_then ?_))))
      refine c_reg ?_
      refine sy (v := I ((0 : Nat) : Int)) (y_move s10_169) ?_
      refine sy (v := I ((0 + 1 : Nat) : Int)) (n_add (a := 0) (b := 1) rfl rfl (by omega)) ?_
      refine sy (v := I ((0 + 1 : Nat) : Int)) (y_assign rfl) ?_
      refine c_nil ?_
      exact lp_next (0 + 1) ⟨s1_169, s3_169, rfl, (by omega), H169⟩ (by show _ < _; omega)
    ·
     have hrl : ((List.replicate f1.path.length (hcB (b8 ((1 + 1 : Nat) : Int))))).length = f1.path.length := List.length_replicate (n := f1.path.length) (a := (hcB (b8 ((1 + 1 : Nat) : Int))))
     refine wp_skip ?_
     refine n_then ?_
     refine c_seq ?_
     refine wp_block ?_
     refine c_seq ?_
     refine c_reg ?_
     refine sy (v := Ad (bs g1) (0 + 1)) (y_fld Try.underlying41 rfl rfl sz39 (by decide) s1_165) ?_
     refine sy (v := lv) (y_load sc39 rfl (H165.cell 1 rfl rfl)) ?_
     refine sy (v := I ((1 : Nat) : Int)) (y_move s10_165) ?_
     refine sy (v := Ad (sp (lv)) (1 * 5)) (y_ixR (m := 1) Try.underlying39 sz74 (hE.rd H165 6 rfl) (by decide) rfl rfl rfl (by omega)) ?_
     refine sy (v := Ad (sp (lv)) ((1 * 5) + 4)) (y_fld Try.underlying74 rfl rfl sz72 (by decide) rfl) ?_
     refine sy (v := f1.pv) (y_load sc72 rfl ((hE.rd H165 6 rfl).cell _ _ (show (([f0, f1] : List Lf).flatMap Lf.cs)[9]? = _ from rfl))) ?_
     refine sy (v := f1.pv) (y_assign rfl) ?_
     refine c_nil ?_
     refine n_then ?_
     refine c_seq ?_
     refine c_reg ?_
     refine sy (v := I ((0 : Nat) : Int)) (y_assign (v := I ((0 : Nat) : Int)) rfl) ?_
     refine c_nil ?_
     refine n_then ?_
     refine wp_block ?_
     refine c_loop (fun (kc : Nat) f172 w173 => f172 1 = Ad (bs g1) (0) ∧ f172 3 = Ad (bs g4) (0) ∧ f172 10 = I ((1 : Nat) : Int) ∧ f172 11 = f1.pv ∧ f172 12 = I ((kc : Nat) : Int) ∧ kc ≤ f1.path.length ∧ St w0 X [EK, [(g1, Rw 41 ([I (n), lv]))], G0, R0, G1, R1, E] w173) (fun kc => f1.path.length - kc) 0 ⟨s1_165, s3_165, s10_165, rfl, rfl, (Nat.zero_le _), H165⟩ ?_
     rintro kc f172 w173 ⟨s1_174, s3_174, s10_174, s11_174, s12_174, hf0_174, H174⟩
     refine c_seq ?_
     refine c_seq ?_
     refine c_reg ?_
     refine sy (v := I ((kc : Nat) : Int)) (y_move s12_174) ?_
     refine sy (v := f1.pv) (y_move s11_174) ?_
     refine sy (v := I ((f1.path.length : Nat) : Int)) (y_lenR Try.underlying72 (hr1.rd H174 5 rfl) rfl) ?_
     refine sy (v := .bool (decide (kc < f1.path.length))) (n_lss (a := kc) (b := f1.path.length) rfl rfl) ?_
     refine c_nil ?_
     refine n_then ?_
     refine c_if rfl (fun hc175 => ?_) (fun hc175 => ?_)
     ·
      refine wp_skip ?_
      refine n_then ?_
      refine c_seq ?_
      refine wp_block ?_
      refine c_seq ?_
      refine c_reg ?_
      refine sy (v := f1.pv) (y_move s11_174) ?_
      refine sy (v := I ((kc : Nat) : Int)) (y_move s12_174) ?_
      refine sy (v := Ad (sp (f1.pv)) (kc * 32)) (y_ixR (m := kc) Try.underlying72 sz26 (hr1.rd H174 5 rfl) (by decide) rfl rfl rfl (by omega)) ?_
      refine sy (v := .agg (((List.replicate f1.path.length (hcB (b8 ((1 + 1 : Nat) : Int)))).getD kc []).map B8).toArray) (y_loadA (us := ((List.replicate f1.path.length (hcB (b8 ((1 + 1 : Nat) : Int)))).getD kc []).map B8) ag26 sz26 ((List.length_map _).trans (getD_len (rph_h32 (hcB_len _)) (by omega))) rfl (fun j u hu => (hr1.rd H174 5 rfl).cell _ _ (flat_get (rph_h32 (hcB_len _)) (by omega) hu))) ?_
      refine sy (v := I ((1 : Nat) : Int)) (y_move s10_174) ?_
      refine sy (v := I ((1 + 1 : Nat) : Int)) (n_add (a := 1) (b := 1) rfl rfl (by omega)) ?_
      refine sy (v := B8 (b8 ((1 + 1 : Nat)))) (y_conv_I_8 Try.underlying3 Try.underlying5 rfl) ?_
      refine sy (v := .agg (((hcB (b8 ((1 + 1 : Nat) : Int)))).map B8).toArray) (y_build (pv := [(0, B8 (b8 ((1 + 1 : Nat) : Int)))]) (us := (hcB (b8 ((1 + 1 : Nat) : Int))).map B8) ⟨⟨rfl, rfl⟩, trivial⟩ (by kernel_rfl)) ?_
      refine sy (v := .bool (decide (((List.replicate f1.path.length (hcB (b8 ((1 + 1 : Nat) : Int)))).getD kc []) ≠ (hcB (b8 ((1 + 1 : Nat) : Int)))))) (y_neqArr (l1 := (List.replicate f1.path.length (hcB (b8 ((1 + 1 : Nat) : Int)))).getD kc []) (l2 := (hcB (b8 ((1 + 1 : Nat) : Int)))) Try.underlying26 sz5 sc5 Try.underlying5 gt26 (getD_len (rph_h32 (hcB_len _)) (by omega)) (hcB_len _) rfl rfl) ?_
      refine c_nil ?_
      refine n_then ?_
      have hq176 : ¬ (((List.replicate f1.path.length (hcB (b8 ((1 + 1 : Nat) : Int)))).getD kc []) ≠ (hcB (b8 ((1 + 1 : Nat) : Int)))) := (not_not_intro (rph_get (by omega)))
      refine c_f rfl (decide_eq_false hq176) ?_
      refine wp_skip ?_
      refine n_block (n_then ?_)
      refine c_reg ?_
      refine sy (v := I ((kc : Nat) : Int)) (y_move s12_174) ?_
      refine sy (v := I ((kc + 1 : Nat) : Int)) (n_add (a := kc) (b := 1) rfl rfl (by omega)) ?_
      refine sy (v := I ((kc + 1 : Nat) : Int)) (y_assign rfl) ?_
      refine c_nil ?_
      exact lp_next (kc + 1) ⟨s1_174, s3_174, s10_174, s11_174, rfl, (by omega), H174⟩ (by show _ < _; omega)
     ·
      refine wp_exit ?_
      refine x_then (x_then (x_hit (n_block (n_then ?_))))
      refine c_reg ?_
      refine sy (v := I ((1 : Nat) : Int)) (y_move s10_174) ?_
      refine sy (v := I ((1 + 1 : Nat) : Int)) (n_add (a := 1) (b := 1) rfl rfl (by omega)) ?_
      refine sy (v := I ((1 + 1 : Nat) : Int)) (y_assign rfl) ?_
      refine c_nil ?_
      exact lp_next (1 + 1) ⟨s1_174, s3_174, rfl, (by omega), H174⟩ (by show _ < _; omega)
   ·
    refine wp_exit ?_
    refine x_then (x_then (x_hit (n_then ?_)))
    refine c_seq ?_
    refine c_reg ?_
    refine sy (v := Ad (bs g1) (0 + 1)) (y_fld Try.underlying41 rfl rfl sz39 (by decide) s1_165) ?_
    refine sy (v := lv) (y_load sc39 rfl (H165.cell 1 rfl rfl)) ?_
    refine sy (v := lv) (y_assign rfl) ?_
    refine c_nil ?_
    refine n_then ?_
    refine c_seq ?_
    refine c_seq ?_
    refine c_reg ?_
    refine sy (v := I ((0 : Nat) : Int)) (y_assign (v := I ((0 : Nat) : Int)) rfl) ?_
    refine c_nil ?_
    refine n_then ?_
    refine wp_block ?_
    refine c_loop (fun (qd : Nat) f177 w178 => ∃ (ul : Value), ∃ (zl : List Value), ∃ (EL : Part), f177 1 = Ad (bs g1) (0) ∧ f177 3 = Ad (bs g4) (0) ∧ f177 13 = ul ∧ f177 14 = I ((qd : Nat) : Int) ∧ qd ≤ 9 ∧ TS 74 5 lv 2 (([f0, f1] : List Lf).flatMap Lf.cs) ul (2 + qd) zl EL ∧ St w0 X [EK, [(g1, Rw 41 ([I (n), lv]))], G0, R0, G1, R1, EL] w178) (fun qd => 9 - qd) 0 ⟨_, _, _, s1_165, s3_165, rfl, rfl, (by omega), (TS.refl hE), H165⟩ ?_
    rintro qd f177 w178 ⟨ul, zl, EL, s1_179, s3_179, s13_179, s14_179, hqd, htl, H179⟩
    refine c_seq ?_
    refine c_seq ?_
    refine c_reg ?_
    refine sy (v := I ((qd : Nat) : Int)) (y_move s14_179) ?_
    refine sy (v := .bool (decide (qd < 9))) (n_lss (a := qd) (b := 9) rfl rfl) ?_
    refine c_nil ?_
    refine n_then ?_
    refine c_if rfl (fun hc180 => ?_) (fun hc180 => ?_)
    ·
     refine wp_skip ?_
     refine n_then ?_
     refine c_seq ?_
     refine wp_block ?_
     refine c_reg ?_
     refine sy (v := ul) (y_move s13_179) ?_
     refine sy (v := .agg ([I (-8), I ((0 : Nat) : Int), .string .empty, .slice none 0 0, .slice none 0 0]).toArray) (y_build (pv := [(0, I (-8))]) (us := [I (-8), I ((0 : Nat) : Int), .string (.empty), .slice none 0 0, .slice none 0 0]) ⟨⟨rfl, rfl⟩, trivial⟩ (by kernel_rfl)) ?_
     refine st (ow_buildSlice (pv := [(0, .agg ([I (-8), I ((0 : Nat) : Int), .string .empty, .slice none 0 0, .slice none 0 0]).toArray)]) (us := [I (-8), I ((0 : Nat) : Int), .string (.empty), .slice none 0 0, .slice none 0 0]) Try.underlying39 sz74 zr74 H179 ⟨⟨rfl, rfl⟩, trivial⟩ (by decide) (by kernel_rfl)) ?_
     rintro _ w182 ⟨g181, rfl, H183⟩
     have H184 : St w0 _ [_, _, _, _, _, _, _, _] w182 := H183.foc 7 rfl rfl
     refine st (ow_append_ts (m := 1) Try.underlying39 sz74 zr74 bt74 rfl htl H184 rfl rfl ((H184.rd (n := 1) (s := 5) (cap := 1) 1 rfl (by simp) ⟨Nat.le_refl _, by simp [maxLen]⟩).src Try.underlying39 (by simp [Value.oneCell'])) (by omega) (by omega)) ?_
     rintro v186 w187 ⟨E185, ho189, H188⟩
     refine sy (v := v186) (y_assign rfl) ?_
     refine c_nil ?_
     refine n_block (n_then ?_)
     refine c_reg ?_
     refine sy (v := I ((qd : Nat) : Int)) (y_move s14_179) ?_
     refine sy (v := I ((qd + 1 : Nat) : Int)) (n_add (a := qd) (b := 1) rfl rfl (by omega)) ?_
     refine sy (v := I ((qd + 1 : Nat) : Int)) (y_assign rfl) ?_
     refine c_nil ?_
     have H190 : St w0 _ [_, _, _, _, _, _, _, _] w187 := H188.foc 7 rfl rfl
     have H191 : St w0 _ [_, _, _, _, _, _, _, _] w187 := H190.foc 7 rfl rfl
     have H192 : St w0 _ [_, _, _, _, _, _, _, _] w187 := H191.foc 7 rfl rfl
     have H193 : St w0 _ [_, _, _, _, _, _, _, _] w187 := H192.foc 7 rfl rfl
     have H194 : St w0 _ [_, _, _, _, _, _, _, _] w187 := H193.foc 7 rfl rfl
     have H195 : St w0 _ [_, _, _, _, _, _, _, _] w187 := H194.foc 7 rfl rfl
     have H196 : St w0 _ [_, _, _, _, _, _, _] w187 := H195.take 7 rfl
     exact lp_next (qd + 1) ⟨v186, _, E185, s1_179, s3_179, rfl, rfl, (by omega), ho189, H196⟩ (by show _ < _; omega)
    ·
     obtain rfl : qd = 9 := by omega
     refine wp_exit ?_
     refine x_then (x_then (x_hit (n_then ?_)))
     refine c_seq ?_
     refine c_reg ?_
     refine sy (v := Ad (bs g4) (0)) (y_move s3_179) ?_
     obtain ⟨s199, s200, hr201⟩ := hBK.rd H179 0 rfl
     refine st (ow_call fn52 rfl (stays_bc g4 tot s199 s200 xs us _ hr201 (by first | omega | simp)) ⟨rfl, trivial⟩) ?_
     rintro _ w197 ⟨rfl, hB198⟩
     have H202 : St w0 _ [_, _, _, _, _, _, _] w197 := H179.call hB198
     refine sy (v := .bool (true)) (y_assign rfl) ?_
     refine c_nil ?_
     refine n_then ?_
     refine c_seq ?_
     refine c_seq ?_
     have H203 : St w0 _ [_, _, _, _, _, _, _] w197 := H202.foc 6 rfl rfl
     obtain ⟨EX7, ER7, hox7, H204⟩ := OX.of htl H203
     refine c_reg ?_
     refine sy (v := I ((0 : Nat) : Int)) (y_assign (v := I ((0 : Nat) : Int)) rfl) ?_
     refine c_nil ?_
     refine n_then ?_
     refine wp_block ?_
     refine c_loop (fun (ie : Nat) f205 w206 => ∃ (E7 : Part), f205 1 = Ad (bs g1) (0) ∧ f205 15 = .bool (true) ∧ f205 16 = I ((ie : Nat) : Int) ∧ ie ≤ 2 ∧ OX 74 5 lv 2 E7 ∧ St w0 X [E7, ER7, EK, [(g1, Rw 41 ([I (n), lv]))], G0, R0, G1, R1] w206) (fun ie => 2 - ie) 0 ⟨_, s1_179, rfl, rfl, (by omega), hox7, H204⟩ ?_
     rintro ie f205 w206 ⟨E7, s1_207, s15_207, s16_207, hie, ho7, H207⟩
     refine c_seq ?_
     refine c_seq ?_
     obtain ⟨cs208, hrd209⟩ := OX.rd ho7 H207 0 rfl
     refine c_reg ?_
     refine sy (v := I ((ie : Nat) : Int)) (y_move s16_207) ?_
     refine sy (v := Ad (bs g1) (0 + 1)) (y_fld Try.underlying41 rfl rfl sz39 (by decide) s1_207) ?_
     refine sy (v := lv) (y_load sc39 rfl (H207.cell 3 rfl rfl)) ?_
     refine sy (v := I ((2 : Nat) : Int)) (y_lenR Try.underlying39 hrd209 rfl) ?_
     refine sy (v := .bool (decide (ie < 2))) (n_lss (a := ie) (b := 2) rfl rfl) ?_
     refine c_nil ?_
     refine n_then ?_
     refine c_if rfl (fun hc210 => ?_) (fun hc210 => ?_)
     ·
      refine wp_skip ?_
      refine n_then ?_
      refine c_seq ?_
      refine wp_block ?_
      obtain ⟨cs211, hrd212⟩ := OX.rd ho7 H207 0 rfl
      refine c_reg ?_
      refine sy (v := Ad (bs g1) (0 + 1)) (y_fld Try.underlying41 rfl rfl sz39 (by decide) s1_207) ?_
      refine sy (v := lv) (y_load sc39 rfl (H207.cell 3 rfl rfl)) ?_
      refine sy (v := I ((ie : Nat) : Int)) (y_move s16_207) ?_
      refine sy (v := .agg ([I (-9), I ((0 : Nat) : Int), .string .empty, .slice none 0 0, .slice none 0 0]).toArray) (y_build (pv := [(0, I (-9))]) (us := [I (-9), I ((0 : Nat) : Int), .string (.empty), .slice none 0 0, .slice none 0 0]) ⟨⟨rfl, rfl⟩, trivial⟩ (by kernel_rfl)) ?_
      refine sy (v := Ad (sp (lv)) (ie * 5)) (y_ixR (m := ie) Try.underlying39 sz74 hrd212 (by decide) rfl rfl rfl (by omega)) ?_
      refine s0 (ow_storeOX (i := ie) (us := [I (-9), I ((0 : Nat) : Int), .string (.empty), .slice none 0 0, .slice none 0 0]) ho7 H207 sz74 rfl (by omega) rfl rfl (by simp [Value.oneCell']) rfl (by omega)) ?_
      rintro _ w214 ⟨E213, ho216, H215⟩
      refine c_nil ?_
      refine n_block (n_then ?_)
      refine c_reg ?_
      refine sy (v := I ((ie : Nat) : Int)) (y_move s16_207) ?_
      refine sy (v := I ((ie + 1 : Nat) : Int)) (n_add (a := ie) (b := 1) rfl rfl (by omega)) ?_
      refine sy (v := I ((ie + 1 : Nat) : Int)) (y_assign rfl) ?_
      refine c_nil ?_
      exact lp_next (ie + 1) ⟨E213, s1_207, s15_207, rfl, (by omega), ho216, H215⟩ (by show _ < _; omega)
     ·
      refine wp_exit ?_
      refine x_then (x_then (x_hit (n_then ?_)))
      refine c_seq ?_
      refine c_reg ?_
      refine sy (v := .bool (true)) (y_move s15_207) ?_
      refine sy (v := .bool (true)) (y_assign rfl) ?_
      refine c_nil ?_
      refine n_then ?_
      refine wp_ret ?_
      refine e_r1 Try.results48 (rv_t rfl) ?_
      exact ⟨_, rfl, rfl, H207.take 0 rfl⟩

theorem spoil_c (n : Int) (lv : Value) (ls : List Lf) (EB : Part) (w : World) (hP : LsP lv ls EB) (hown : ∀ p ∈ EB, w.heap[p.1]? = some p.2) (h2 : ls.length ≤ 2) (hb : ∀ f ∈ ls, f.cell.c.l.length ≤ 134217728) :
    Calls Try.prog 48 (([.agg ([I n, lv] : List Value).toArray] : List Value).toArray) w (fun e w' => ∃ v, e = .returned v ∧ v = .bool true ∧ St w (EB.map (·.1)) [] w') := by
  obtain ⟨E, F, rfl, hE, hF, hd, -⟩ := hP
  have H0 := (St.initE hown).split hd
  rcases ls with _ | ⟨f, _ | ⟨g, _ | ⟨h, t⟩⟩⟩
  · exact spoil0_c _ w w n lv E ((H0.foc 1 rfl rfl).take 1 rfl) hE
  · obtain ⟨F1, F2, rfl, ⟨Ev, Ep, rfl, q1, q2, q3, q4, q5, q6⟩, hF2, d1⟩ := hF
    have e3 : F2 = [] := hF2
    subst e3
    have H1 := (H0.subL.split q6).foc 1 rfl rfl
    exact spoil1_c _ w w n lv f E Ev Ep H1 hE q1 q2 q4 (hb f (by simp)) q5
  · obtain ⟨F1, F2, rfl, ⟨Ev, Ep, rfl, q1, q2, q3, q4, q5, q6⟩, ⟨F3, F4, rfl, ⟨Fv, Fp, rfl, p1, p2, p3, p4, p5, p6⟩, hF4, d2⟩, d1⟩ := hF
    have e5 : F4 = [] := hF4
    subst e5
    have H1 := ((H0.split d1).subL.split p6).foc 1 rfl rfl
    have H2 := ((H1.foc 2 rfl rfl).split q6).foc 1 rfl rfl
    exact spoil2_c _ w w n lv f g E Ev Ep Fv Fp H2 hE q1 q2 q4 (hb f (by simp)) q5 p1 p2 p4 (hb g (by simp)) p5
  · simp only [List.length_cons] at h2; omega

end Go.Proofs.Ytdcmbcjkdhdohaa
