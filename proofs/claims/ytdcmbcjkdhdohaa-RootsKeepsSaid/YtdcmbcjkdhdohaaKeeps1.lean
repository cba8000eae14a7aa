/- Walks: few, full, Wide, Kept. -/
import Derived.Test.YtdcmbcjkdhdohaaRoots5
namespace Go.Proofs.Ytdcmbcjkdhdohaa
open Go Go.RowKit
set_option linter.unusedSimpArgs false
set_option linter.unusedVariables false
theorem os_made {g cap e : Nat} {cur : List Value} (hc : cur.length = cap) (hm : cap ≤ maxLen) : OS e 1 (.slice (some (bs g)) 0 cap) 0 [] [(g, Rw e cur)] :=
  .inr ⟨g, cap, cur, rfl, rfl, Nat.zero_le _, hm, by omega, rfl⟩
def m7 : List UInt8 := [192, 193, 194, 195, 196, 197, 198]
theorem m7_len (l : List UInt8) : (l ++ m7).length = l.length + 7 := by rw [List.length_append]; rfl
theorem m7_at (l : List UInt8) (i : Nat) (h : i < 7) : (l ++ m7).getD (l.length + i) 0 = b8 ((192 + i : Nat) : Int) := by
  rw [List.getD_eq_getElem?_getD, List.getElem?_append_right (by omega), Nat.add_sub_cancel_left]
  have : i = 0 ∨ i = 1 ∨ i = 2 ∨ i = 3 ∨ i = 4 ∨ i = 5 ∨ i = 6 := by omega
  rcases this with rfl | rfl | rfl | rfl | rfl | rfl | rfl <;> rfl
/-- A slice of bytes of ours with the seven marks behind it. -/
def WideP (v : Value) (l : List UInt8) (E : Part) : Prop := ∃ g cap cur, v = .slice (some (bs g)) l.length cap ∧ E = [(g, Rw 5 cur)] ∧ l.length + 7 ≤ cap ∧ cap ≤ maxLen ∧ cur.length = cap ∧ cur.take (l.length + 7) = (l ++ m7).map B8
section
variable {w w0 : World} {X : List Nat} {L : List Part} {v : Value} {l : List UInt8} {E : Part}
theorem wide_of {tv : Value} (h : OS 5 1 tv (l ++ m7).length ((l ++ m7).map B8) E) : WideP (slv 1 0 l.length tv) l E := by
  have hl := m7_len l
  rcases h with ⟨-, h, -⟩ | ⟨g, cap, cur, rfl, rfl, h1, h2, h3, h4⟩
  · omega
  · rw [Nat.mul_one] at h3 h4
    rw [hl] at h4
    refine ⟨g, cap, cur, ?_, rfl, by omega, h2, h3, h4⟩
    show Value.slice (if cap = 0 then some (bs g) else (some (bs g)).map (·.add (0 * 1))) (l.length - 0) (cap - 0) = _
    rw [if_neg (by omega)]
    rfl
theorem WideP.os (h : WideP v l E) : OS 5 1 v l.length (l.map B8) E := by
  obtain ⟨g, cap, cur, rfl, rfl, h1, h2, h3, h4⟩ := h
  refine .inr ⟨g, cap, cur, rfl, rfl, by omega, h2, by omega, ?_⟩
  have h5 := congrArg (List.take l.length) h4
  rw [List.take_take, Nat.min_eq_left (by omega), List.map_append, List.take_left' (by rw [List.length_map])] at h5
  rw [Nat.mul_one]; exact h5
theorem WideP.rd7 (h : WideP v l E) (H : St w0 X L w) (i : Nat) (hi : L[i]? = some E) : ∃ p cap, v = .slice (some p) l.length cap ∧ l.length + 7 ≤ cap ∧ cap ≤ maxLen ∧ Rd [] w 1 (.slice (some p) (l.length + 7) cap) (l ++ m7).length ((l ++ m7).map B8) := by
  obtain ⟨g, cap, cur, rfl, rfl, h1, h2, h3, h4⟩ := h
  have := H.rd (n := l.length + 7) (s := 1) (cap := cap) i hi (by omega) ⟨h1, h2⟩
  rw [Nat.mul_one, h4] at this
  exact ⟨bs g, cap, rfl, h1, h2, by rw [m7_len]; exact this⟩
/-- The first of a longer slice. -/
theorem Rd.fst {s n m cap : Nat} {p : Addr} {cs : List Value} (h : Rd X w s (.slice (some p) n cap) n cs) (hm : m ≤ n) : Rd X w s (.slice (some p) m cap) m (cs.take (m * s)) := by
  obtain ⟨a, c, e, h1, h2⟩ := h.shape
  have hl := h.len
  have hms : m * s ≤ n * s := Nat.mul_le_mul_right _ hm
  refine ⟨by rw [List.length_take]; omega, ⟨_, _, rfl, ?_, ?_⟩, fun j u hu => h.cell j u ?_, fun h0 => ⟨(h.off (by rw [List.length_take] at h0; omega)).1, _, _, _, rfl⟩⟩
  · injection e with _ _ e3; omega
  · injection e with _ _ e3; omega
  · rw [List.getElem?_take] at hu
    by_cases hj : j < m * s
    · rwa [if_pos hj] at hu
    · rw [if_neg hj] at hu; cases hu
end
end Go.Proofs.Ytdcmbcjkdhdohaa
namespace Go.Proofs.Ytdcmbcjkdhdohaa
open Go Go.RowKit
set_option linter.unusedSimpArgs false
set_option linter.unusedVariables false
attribute [local irreducible] wpList wpP Code.wp

attribute [local irreducible] leafH innerH topH rootH rootA sha

theorem few_c (v0 : Value) (cs : List Cl) (w : World) (hC : CsR [] w v0 cs) :
    Calls Try.prog 44 (([v0] : List Value).toArray) w (fun e w' => ∃ v, e = .returned v ∧ ∃ b : Bool, v = .bool b ∧ Below w.heap.size w w') := by
 have hle := hC.le
 refine calls_mk Try.func44 rfl 26 Try.ntmps44 rfl ?_
 have H0 : St w [] [] w := St.refl w
 refine c_seq ?_
 refine c_reg ?_
 refine sy (v := .bool (false)) (y_assign (v := .bool (false)) rfl) ?_
 refine c_nil ?_
 refine n_then ?_
 refine c_seq ?_
 refine c_reg ?_
 refine sy (v := I ((134217728 : Nat) : Int)) (y_assign (v := I ((134217728 : Nat) : Int)) rfl) ?_
 refine c_nil ?_
 refine n_then ?_
 refine c_seq ?_
 refine c_seq ?_
 refine c_reg ?_
 refine sy (v := I ((0 : Nat) : Int)) (y_assign (v := I ((0 : Nat) : Int)) rfl) ?_
 refine c_nil ?_
 refine n_then ?_
 refine wp_block ?_
 refine c_loop (fun (i : Nat) f1 w2 => ∃ (r : Int), f1 0 = v0 ∧ f1 3 = I (r) ∧ f1 4 = I ((i : Nat) : Int) ∧ i ≤ cs.length ∧ -2199023255552 ≤ r ∧ r ≤ 134217728 ∧ St w [] [] w2) (fun i => cs.length - i) 0 ⟨134217728, rfl, rfl, rfl, (Nat.zero_le _), (by omega), (by omega), H0⟩ ?_
 rintro i f1 w2 ⟨r, s0_3, s3_3, s4_3, hi, hr1, hr2, H3⟩
 have hsm : i < cs.length → (cs.getD i c0).c.l.length ≤ 1099511627776 := fun h => (hC.at (d := c0) h).2.2
 refine c_seq ?_
 refine c_seq ?_
 refine c_reg ?_
 refine sy (v := I ((i : Nat) : Int)) (y_move s4_3) ?_
 refine sy (v := v0) (y_move s0_3) ?_
 refine sy (v := I ((cs.length : Nat) : Int)) (y_lenR Try.underlying38 (hC.st H3).rd rfl) ?_
 refine sy (v := .bool (decide (i < cs.length))) (n_lss (a := i) (b := cs.length) rfl rfl) ?_
 refine sy (v := .bool (decide (i < cs.length))) (y_move rfl) ?_
 by_cases hp4 : i < cs.length
 ·
  refine gsy (v := I (r)) (gv_of (t := 9) rfl rfl rfl) (decide_eq_true hp4) (y_move s3_3) ?_
  refine gsy (v := .bool (decide (((0 : Nat) : Int) ≤ r))) (gv_of (t := 9) rfl rfl rfl) (decide_eq_true hp4) (y_geq (i := r) (j := ((0 : Nat) : Int)) rfl rfl) ?_
  refine sy (v := .bool (decide (((0 : Nat) : Int) ≤ r))) (y_pickT rfl (decide_eq_true hp4) rfl) ?_
  refine c_nil ?_
  refine n_then ?_
  refine c_if rfl (fun hc5 => ?_) (fun hc5 => ?_)
  ·
   refine wp_skip ?_
   refine n_then ?_
   refine c_seq ?_
   refine wp_block ?_
   have hs5 := hsm (by omega)
   refine c_reg ?_
   refine sy (v := I (r)) (y_move s3_3) ?_
   refine sy (v := v0) (y_move s0_3) ?_
   refine sy (v := I ((i : Nat) : Int)) (y_move s4_3) ?_
   refine sy (v := Ad (sp (v0)) (i * 3)) (y_ixR (m := i) Try.underlying38 sz48 (hC.st H3).rd (by decide) rfl rfl rfl (by omega)) ?_
   refine sy (v := Ad (sp (v0)) ((i * 3) + 2)) (y_fld Try.underlying48 rfl rfl sz23 (by decide) rfl) ?_
   refine sy (v := (cs.getD i c0).v) (y_load sc23 rfl ((hC.st H3).rd.cell _ _ (flat3_get (i := i) (j := 2) (d := c0) (by omega) rfl))) ?_
   refine sy (v := I (((cs.getD i c0).c.l.length : Nat) : Int)) (y_lenR Try.underlying23 ((hC.at (d := c0) (i := i) (by omega)).1.st H3) rfl) ?_
   refine sy (v := I ((64 + ((cs.getD i c0).c.l.length) : Nat) : Int)) (n_add (a := 64) (b := (cs.getD i c0).c.l.length) rfl rfl (by omega)) ?_
   refine sy (v := I (r - ((64 + ((cs.getD i c0).c.l.length) : Nat) : Int))) (y_sub (i := r) (j := ((64 + ((cs.getD i c0).c.l.length) : Nat) : Int)) rfl rfl (by omega)) ?_
   refine sy (v := I (r - ((64 + ((cs.getD i c0).c.l.length) : Nat) : Int))) (y_assign rfl) ?_
   refine c_nil ?_
   refine n_block (n_then ?_)
   refine c_reg ?_
   refine sy (v := I ((i : Nat) : Int)) (y_move s4_3) ?_
   refine sy (v := I ((i + 1 : Nat) : Int)) (n_add (a := i) (b := 1) rfl rfl (by omega)) ?_
   refine sy (v := I ((i + 1 : Nat) : Int)) (y_assign rfl) ?_
   refine c_nil ?_
   exact lp_next (i + 1) ⟨r - ((64 + ((cs.getD i c0).c.l.length) : Nat) : Int), s0_3, rfl, rfl, (by omega), (by omega), (by omega), H3⟩ (by show _ < _; omega)
  ·
   refine wp_exit ?_
   refine x_then (x_then (x_hit (n_then ?_)))
   refine c_seq ?_
   refine c_reg ?_
   refine sy (v := I (r)) (y_move s3_3) ?_
   refine sy (v := .bool (decide (((0 : Nat) : Int) ≤ r))) (y_geq (i := r) (j := ((0 : Nat) : Int)) rfl rfl) ?_
   refine sy (v := .bool (decide (((0 : Nat) : Int) ≤ r))) (y_assign rfl) ?_
   refine c_nil ?_
   refine n_then ?_
   refine wp_ret ?_
   refine e_r1 Try.results44 (rv_t rfl) ?_
   exact ⟨_, rfl, _, rfl, H3.below⟩
 ·
  refine gno (gv_of (t := 9) rfl rfl rfl) (decide_eq_false hp4) ?_
  refine gno (gv_of (t := 9) rfl rfl rfl) (decide_eq_false hp4) ?_
  refine sy (v := .bool (false)) (y_pickF (v := .bool (false)) rfl (decide_eq_false hp4) rfl) ?_
  refine c_nil ?_
  refine n_then ?_
  refine c_f rfl rfl ?_
  refine wp_exit ?_
  refine x_then (x_then (x_hit (n_then ?_)))
  refine c_seq ?_
  refine c_reg ?_
  refine sy (v := I (r)) (y_move s3_3) ?_
  refine sy (v := .bool (decide (((0 : Nat) : Int) ≤ r))) (y_geq (i := r) (j := ((0 : Nat) : Int)) rfl rfl) ?_
  refine sy (v := .bool (decide (((0 : Nat) : Int) ≤ r))) (y_assign rfl) ?_
  refine c_nil ?_
  refine n_then ?_
  refine wp_ret ?_
  refine e_r1 Try.results44 (rv_t rfl) ?_
  exact ⟨_, rfl, _, rfl, H3.below⟩

theorem full_c (v0 : Value) (l : List UInt8) (x : UInt8) (w : World) (hR : Rd [] w 1 v0 l.length (l.map B8)) (hl : l.length ≤ 1099511627776) (hall : ∀ j, j < l.length → l.getD j 0 = x) :
    Calls Try.prog 105 (([v0, B8 (x)] : List Value).toArray) w (fun e w' => ∃ v, e = .returned v ∧ v = .bool true ∧ Below w.heap.size w w') := by
 refine calls_mk Try.func105 rfl 18 Try.ntmps105 rfl ?_
 have H0 : St w [] [] w := St.refl w
 refine c_seq ?_
 refine c_reg ?_
 refine sy (v := .bool (false)) (y_assign (v := .bool (false)) rfl) ?_
 refine c_nil ?_
 refine n_then ?_
 refine c_seq ?_
 refine c_seq ?_
 refine c_reg ?_
 refine sy (v := I ((0 : Nat) : Int)) (y_assign (v := I ((0 : Nat) : Int)) rfl) ?_
 refine c_nil ?_
 refine n_then ?_
 refine wp_block ?_
 refine c_loop (fun (i : Nat) f1 w2 => f1 0 = v0 ∧ f1 1 = B8 (x) ∧ f1 5 = I ((i : Nat) : Int) ∧ i ≤ l.length ∧ St w [] [] w2) (fun i => l.length - i) 0 ⟨rfl, rfl, rfl, (Nat.zero_le _), H0⟩ ?_
 rintro i f1 w2 ⟨s0_3, s1_3, s5_3, hf0_3, H3⟩
 refine c_seq ?_
 refine c_seq ?_
 refine c_reg ?_
 refine sy (v := I ((i : Nat) : Int)) (y_move s5_3) ?_
 refine sy (v := v0) (y_move s0_3) ?_
 refine sy (v := I ((l.length : Nat) : Int)) (y_lenR Try.underlying23 (hR.st H3) rfl) ?_
 refine sy (v := .bool (decide (i < l.length))) (n_lss (a := i) (b := l.length) rfl rfl) ?_
 refine c_nil ?_
 refine n_then ?_
 refine c_if rfl (fun hc4 => ?_) (fun hc4 => ?_)
 ·
  refine wp_skip ?_
  refine n_then ?_
  refine c_seq ?_
  refine wp_block ?_
  refine c_seq ?_
  refine c_reg ?_
  refine sy (v := v0) (y_move s0_3) ?_
  refine sy (v := I ((i : Nat) : Int)) (y_move s5_3) ?_
  refine sy (v := Ad (sp (v0)) (i * 1)) (y_ixR (m := i) Try.underlying23 sz5 (hR.st H3) (by decide) rfl rfl rfl (by omega)) ?_
  refine sy (v := B8 (l.getD i 0)) (y_load sc5 rfl ((hR.st H3).cell _ _ (by rw [Nat.mul_one]; exact map_get B8 (l := l) (k := i) 0 (by omega)))) ?_
  refine sy (v := B8 (x)) (y_move s1_3) ?_
  refine sy (v := .bool (decide ((l.getD i 0) ≠ x))) (y_neq8 (a := l.getD i 0) (b := x) rfl rfl) ?_
  refine c_nil ?_
  refine n_then ?_
  have hq5 : ¬ ((l.getD i 0) ≠ x) := (not_not_intro (hall i (by omega)))
  refine c_f rfl (decide_eq_false hq5) ?_
  refine wp_skip ?_
  refine n_block (n_then ?_)
  refine c_reg ?_
  refine sy (v := I ((i : Nat) : Int)) (y_move s5_3) ?_
  refine sy (v := I ((i + 1 : Nat) : Int)) (n_add (a := i) (b := 1) rfl rfl (by omega)) ?_
  refine sy (v := I ((i + 1 : Nat) : Int)) (y_assign rfl) ?_
  refine c_nil ?_
  exact lp_next (i + 1) ⟨s0_3, s1_3, rfl, (by omega), H3⟩ (by show _ < _; omega)
 ·
  refine wp_exit ?_
  refine x_then (x_then (x_hit (n_then ?_)))
  refine c_seq ?_
  refine c_reg ?_
  refine sy (v := .bool (true)) (y_assign (v := .bool (true)) rfl) ?_
  refine c_nil ?_
  refine n_then ?_
  refine wp_ret ?_
  refine e_r1 Try.results105 (rv_t rfl) ?_
  exact ⟨_, rfl, rfl, H3.below⟩

theorem m7_step {i : Nat} (h : i < 7) : m7.take (i + 1) = m7.take i ++ [b8 ((192 + i : Nat) : Int)] := by
  have : i = 0 ∨ i = 1 ∨ i = 2 ∨ i = 3 ∨ i = 4 ∨ i = 5 ∨ i = 6 := by omega
  rcases this with rfl | rfl | rfl | rfl | rfl | rfl | rfl <;> rfl

theorem Wide_c (v0 : Value) (l : List UInt8) (w : World) (hR : Rd [] w 1 v0 l.length (l.map B8)) (hl : l.length ≤ 1099511627776) :
    Calls Try.prog 102 (([v0] : List Value).toArray) w (fun e w' => ∃ v, e = .returned v ∧ ∃ E, WideP v l E ∧ St w [] [E] w') := by
 refine calls_mk Try.func102 rfl 26 Try.ntmps102 rfl ?_
 have H0 : St w [] [] w := St.refl w
 refine c_seq ?_
 refine c_reg ?_
 refine sy (v := .slice none 0 0) (y_assign (v := .slice none 0 0) rfl) ?_
 refine c_nil ?_
 refine n_then ?_
 refine c_seq ?_
 refine c_reg ?_
 refine sy (v := v0) (y_move rfl) ?_
 refine sy (v := I ((l.length : Nat) : Int)) (y_lenR Try.underlying23 (hR.st H0) rfl) ?_
 refine sy (v := I ((l.length + 7 : Nat) : Int)) (n_add (a := l.length) (b := 7) rfl rfl (by omega)) ?_
 refine st (ow_make (l := 0) (c := l.length + 7) Try.underlying23 sz5 zr5 bt5 rfl H0 rfl rfl (by omega) (by omega) (by omega)) ?_
 rintro _ w2 ⟨g1, rfl, H3'⟩
 have H3 : St w _ [[(g1, Rw 5 ((List.replicate (l.length + 7) 0).map B8))]] w2 := H3'.eq1 (by rw [Nat.mul_one, made_rep rfl]; first | rfl | exact (List.map_replicate (f := B8) (a := 0)).symm)
 refine sy (v := .slice (some (bs g1)) (0) (l.length + 7)) (y_assign rfl) ?_
 refine c_nil ?_
 refine n_then ?_
 refine c_seq ?_
 refine c_reg ?_
 refine sy (v := .slice (some (bs g1)) (0) (l.length + 7)) (y_move rfl) ?_
 refine sy (v := v0) (y_move rfl) ?_
 refine st (ow_append Try.underlying23 sz5 zr5 bt5 rfl (os_made (by simp) (by unfold maxLen; omega)) H3 rfl rfl ((hR.st H3).src Try.underlying23 (map_one (F := B8) (fun _ => rfl) _)) (by first | omega | (simp only [List.length_append, List.length_cons, List.length_nil, List.length_take, List.length_drop, hmac_length, sha_length, List.length_replicate]; omega)) (by first | omega | (simp only [List.length_append, List.length_cons, List.length_nil, List.length_take, List.length_drop, hmac_length, sha_length, List.length_replicate]; omega))) ?_
 rintro v5 w6 ⟨E4, ho8', H7⟩
 have ho8 : OS 5 1 v5 (l).length ((l).map B8) E4 := by first | (have h := ho8'; rw [Nat.zero_add, List.nil_append] at h; exact h) | simpa using ho8'
 refine sy (v := v5) (y_assign rfl) ?_
 refine c_nil ?_
 refine n_then ?_
 refine c_seq ?_
 refine c_seq ?_
 refine c_reg ?_
 refine sy (v := I ((0 : Nat) : Int)) (y_assign (v := I ((0 : Nat) : Int)) rfl) ?_
 refine c_nil ?_
 refine n_then ?_
 refine wp_block ?_
 refine c_loop (fun (i : Nat) f9 w10 => ∃ (tv : Value), ∃ (ET : Part), f9 0 = v0 ∧ f9 3 = tv ∧ f9 4 = I ((i : Nat) : Int) ∧ i ≤ 7 ∧ OS 5 1 tv (l ++ m7.take i).length ((l ++ m7.take i).map B8) ET ∧ St w [] [ET] w10) (fun i => 7 - i) 0 ⟨_, _, rfl, rfl, rfl, (Nat.zero_le _), (by rw [List.take_zero, List.append_nil]; exact ho8), H7⟩ ?_
 rintro i f9 w10 ⟨tv, ET, s0_11, s3_11, s4_11, hi, hoT, H11⟩
 have hlT : (l ++ m7.take i).length = l.length + i := by rw [List.length_append, List.length_take]; show _ + min i 7 = _; omega
 refine c_seq ?_
 refine c_seq ?_
 refine c_reg ?_
 refine sy (v := I ((i : Nat) : Int)) (y_move s4_11) ?_
 refine sy (v := .bool (decide (i < 7))) (n_lss (a := i) (b := 7) rfl rfl) ?_
 refine c_nil ?_
 refine n_then ?_
 refine c_if rfl (fun hc12 => ?_) (fun hc12 => ?_)
 ·
  refine wp_skip ?_
  refine n_then ?_
  refine c_seq ?_
  refine wp_block ?_
  refine c_reg ?_
  refine sy (v := tv) (y_move s3_11) ?_
  refine sy (v := I ((i : Nat) : Int)) (y_move s4_11) ?_
  refine sy (v := I ((192 + i : Nat) : Int)) (n_add (a := 192) (b := i) rfl rfl (by omega)) ?_
  refine sy (v := B8 (b8 ((192 + i : Nat)))) (y_conv_I_8 Try.underlying3 Try.underlying5 rfl) ?_
  refine st (ow_buildSlice (pv := [(0, B8 (b8 ((192 + i : Nat))))]) (us := [B8 (b8 ((192 + i : Nat)))]) Try.underlying23 sz5 zr5 H11 ⟨⟨rfl, rfl⟩, trivial⟩ (by decide) (fill1 rfl)) ?_
  rintro _ w14 ⟨g13, rfl, H15⟩
  have H16 : St w _ [_, _] w14 := H15.foc 1 rfl rfl
  refine st (ow_append Try.underlying23 sz5 zr5 bt5 rfl hoT H16 rfl rfl ((rd_lit (k := 1) (us := [B8 (b8 ((192 + i : Nat)))]) H15 0 rfl rfl (by simp [maxLen])).src Try.underlying23 (by simp [Value.oneCell'])) (by first | omega | (simp only [List.length_append, List.length_cons, List.length_nil, List.length_take, List.length_drop, hmac_length, sha_length, List.length_replicate]; omega)) (by first | omega | (simp only [List.length_append, List.length_cons, List.length_nil, List.length_take, List.length_drop, hmac_length, sha_length, List.length_replicate]; omega))) ?_
  rintro v18 w19 ⟨E17, ho21', H20⟩
  have ho21 : OS 5 1 v18 ((l ++ m7.take i) ++ ([b8 ((192 + i : Nat))])).length (((l ++ m7.take i) ++ ([b8 ((192 + i : Nat))])).map B8) E17 := by rw [List.length_append, List.map_append]; exact ho21'
  refine sy (v := v18) (y_assign rfl) ?_
  refine c_nil ?_
  refine n_block (n_then ?_)
  refine c_reg ?_
  refine sy (v := I ((i : Nat) : Int)) (y_move s4_11) ?_
  refine sy (v := I ((i + 1 : Nat) : Int)) (n_add (a := i) (b := 1) rfl rfl (by omega)) ?_
  refine sy (v := I ((i + 1 : Nat) : Int)) (y_assign rfl) ?_
  refine c_nil ?_
  have H22 : St w _ [_] w19 := H20.take 1 rfl
  exact lp_next (i + 1) ⟨_, _, s0_11, rfl, rfl, (by omega), (by rw [m7_step (by omega), ← List.append_assoc]; exact ho21), H22⟩ (by show _ < _; omega)
 ·
  refine wp_exit ?_
  refine x_then (x_then (x_hit (n_then ?_)))
  refine c_seq ?_
  have hi7 : i = 7 := by omega
  have hlT7 : l.length ≤ (l ++ m7.take i).length := by omega
  refine c_reg ?_
  refine sy (v := tv) (y_move s3_11) ?_
  refine sy (v := v0) (y_move s0_11) ?_
  refine sy (v := I ((l.length : Nat) : Int)) (y_lenR Try.underlying23 (hR.st H11) rfl) ?_
  have hL23 : ((l ++ m7.take i).take l.length).length = l.length := by rw [List.length_take]; omega
  refine sy (v := slv 1 0 l.length tv) (y_slR (k1 := .i64) (k2 := .i64) (l := 0) (h := l.length) Try.underlying23 sz5 (hoT.rd H11 0 rfl) rfl (.inl ⟨rfl, rfl⟩) (.inr ⟨_, rfl, rfl⟩) (by omega) (by omega)) ?_
  refine sy (v := slv 1 0 l.length tv) (y_assign rfl) ?_
  refine c_nil ?_
  refine n_then ?_
  refine wp_ret ?_
  refine e_r1 Try.results102 (rv_t rfl) ?_
  obtain rfl : i = 7 := by omega
  exact ⟨_, rfl, _, wide_of hoT, H11⟩

theorem Kept_c (p : Addr) (cap : Nat) (v1 : Value) (l k : List UInt8) (w : World) (h7 : Rd [] w 1 (.slice (some p) (l.length + 7) cap) (l ++ m7).length ((l ++ m7).map B8)) (hcap : l.length + 7 ≤ cap) (hcm : cap ≤ maxLen) (hK : Rd [] w 1 v1 k.length (k.map B8)) (hl : l.length ≤ 1099511627776) (hk : k.length ≤ 1099511627776) :
    Calls Try.prog 104 (([(.slice (some p) l.length cap), v1] : List Value).toArray) w (fun e w' => ∃ v, e = .returned v ∧ v = .bool (decide (l = k)) ∧ Below w.heap.size w w') := by
 have hm := m7_len l
 have hA : Rd [] w 1 (.slice (some p) l.length cap) l.length (l.map B8) := by
  rw [hm] at h7
  have h := h7.fst (m := l.length) (by omega)
  rw [Nat.mul_one, List.map_append, List.take_left' (by rw [List.length_map])] at h
  exact h
 refine calls_mk Try.func104 rfl 32 Try.ntmps104 rfl ?_
 have H0 : St w [] [] w := St.refl w
 refine c_seq ?_
 refine c_reg ?_
 refine sy (v := .bool (false)) (y_assign (v := .bool (false)) rfl) ?_
 refine c_nil ?_
 refine n_then ?_
 refine c_seq ?_
 refine c_seq ?_
 refine c_reg ?_
 refine sy (v := (.slice (some p) l.length cap)) (y_move rfl) ?_
 refine sy (v := .string (bst l)) (y_str Try.underlying23 Try.underlying5 Try.underlying9 (hA.st H0) rfl) ?_
 refine sy (v := v1) (y_move rfl) ?_
 refine sy (v := .string (bst k)) (y_str Try.underlying23 Try.underlying5 Try.underlying9 (hK.st H0) rfl) ?_
 refine sy (v := .bool (decide (l ≠ k))) (y_neqS (a := l) (b := k) rfl rfl) ?_
 refine c_nil ?_
 refine n_then ?_
 refine c_if rfl (fun hc1 => ?_) (fun hc1 => ?_)
 ·
  refine c_seq ?_
  refine c_reg ?_
  refine sy (v := .bool (false)) (y_assign (v := .bool (false)) rfl) ?_
  refine c_nil ?_
  refine n_then ?_
  refine wp_ret ?_
  refine r_then ?_
  refine e_r1 Try.results104 (rv_t rfl) ?_
  exact ⟨_, rfl, congrArg Value.bool (decide_eq_false (show ¬ l = k by assumption)).symm, H0.below⟩
 ·
  obtain rfl : l = k := Decidable.not_not.1 hc1
  refine wp_skip ?_
  refine n_then ?_
  refine c_seq ?_
  refine c_reg ?_
  refine sy (v := (.slice (some p) l.length cap)) (y_move rfl) ?_
  refine sy (v := v1) (y_move rfl) ?_
  refine sy (v := I ((l.length : Nat) : Int)) (y_lenR Try.underlying23 (hK.st H0) rfl) ?_
  refine sy (v := I ((l.length + 7 : Nat) : Int)) (n_add (a := l.length) (b := 7) rfl rfl (by omega)) ?_
  have h82 : slv 1 0 (l.length + 7) (.slice (some p) l.length cap) = (.slice (some p) (l.length + 7) cap) := by
   show Value.slice (if cap = 0 then some p else (some p).map (·.add (0 * 1))) (l.length + 7 - 0) (cap - 0) = _
   rw [if_neg (by omega)]; rfl
  refine sy (v := (.slice (some p) (l.length + 7) cap)) ((h82 ▸ y_sl (k1 := .i64) (k2 := .i64) (l := 0) (h := l.length + 7) Try.underlying23 sz5 rfl (.inl ⟨rfl, rfl⟩) (.inr ⟨_, rfl, rfl⟩) (by omega) (by omega))) ?_
  refine sy (v := (.slice (some p) (l.length + 7) cap)) (y_assign rfl) ?_
  refine c_nil ?_
  refine n_then ?_
  refine c_seq ?_
  refine c_seq ?_
  refine c_reg ?_
  refine sy (v := I ((0 : Nat) : Int)) (y_assign (v := I ((0 : Nat) : Int)) rfl) ?_
  refine c_nil ?_
  refine n_then ?_
  refine wp_block ?_
  refine c_loop (fun (i : Nat) f3 w4 => f3 1 = v1 ∧ f3 5 = (.slice (some p) (l.length + 7) cap) ∧ f3 6 = I ((i : Nat) : Int) ∧ i ≤ 7 ∧ St w [] [] w4) (fun i => 7 - i) 0 ⟨rfl, rfl, rfl, (Nat.zero_le _), H0⟩ ?_
  rintro i f3 w4 ⟨s1_5, s5_5, s6_5, hf0_5, H5⟩
  refine c_seq ?_
  refine c_seq ?_
  refine c_reg ?_
  refine sy (v := I ((i : Nat) : Int)) (y_move s6_5) ?_
  refine sy (v := .bool (decide (i < 7))) (n_lss (a := i) (b := 7) rfl rfl) ?_
  refine c_nil ?_
  refine n_then ?_
  refine c_if rfl (fun hc6 => ?_) (fun hc6 => ?_)
  ·
   refine wp_skip ?_
   refine n_then ?_
   refine c_seq ?_
   refine wp_block ?_
   refine c_seq ?_
   refine c_reg ?_
   refine sy (v := (.slice (some p) (l.length + 7) cap)) (y_move s5_5) ?_
   refine sy (v := v1) (y_move s1_5) ?_
   refine sy (v := I ((l.length : Nat) : Int)) (y_lenR Try.underlying23 (hK.st H5) rfl) ?_
   refine sy (v := I ((i : Nat) : Int)) (y_move s6_5) ?_
   refine sy (v := I ((l.length + i : Nat) : Int)) (n_add (a := l.length) (b := i) rfl rfl (by omega)) ?_
   refine sy (v := Ad (sp ((.slice (some p) (l.length + 7) cap))) ((l.length + i) * 1)) (y_ixR (m := l.length + i) Try.underlying23 sz5 (h7.st H5) (by decide) rfl rfl rfl (by omega)) ?_
   refine sy (v := B8 ((l ++ m7).getD (l.length + i) 0)) (y_load sc5 rfl ((h7.st H5).cell _ _ (by rw [Nat.mul_one]; exact map_get B8 (l := l ++ m7) (k := l.length + i) 0 (by omega)))) ?_
   refine sy (v := I ((i : Nat) : Int)) (y_move s6_5) ?_
   refine sy (v := I ((192 + i : Nat) : Int)) (n_add (a := 192) (b := i) rfl rfl (by omega)) ?_
   refine sy (v := B8 (b8 ((192 + i : Nat)))) (y_conv_I_8 Try.underlying3 Try.underlying5 rfl) ?_
   refine sy (v := .bool (decide (((l ++ m7).getD (l.length + i) 0) ≠ (b8 ((192 + i : Nat)))))) (y_neq8 (a := (l ++ m7).getD (l.length + i) 0) (b := b8 ((192 + i : Nat))) rfl rfl) ?_
   refine c_nil ?_
   refine n_then ?_
   have hq7 : ¬ (((l ++ m7).getD (l.length + i) 0) ≠ (b8 ((192 + i : Nat)))) := (fun h => h (m7_at l i (by omega)))
   refine c_f rfl (decide_eq_false hq7) ?_
   refine wp_skip ?_
   refine n_block (n_then ?_)
   refine c_reg ?_
   refine sy (v := I ((i : Nat) : Int)) (y_move s6_5) ?_
   refine sy (v := I ((i + 1 : Nat) : Int)) (n_add (a := i) (b := 1) rfl rfl (by omega)) ?_
   refine sy (v := I ((i + 1 : Nat) : Int)) (y_assign rfl) ?_
   refine c_nil ?_
   exact lp_next (i + 1) ⟨s1_5, s5_5, rfl, (by omega), H5⟩ (by show _ < _; omega)
  ·
   refine wp_exit ?_
   refine x_then (x_then (x_hit (n_then ?_)))
   refine c_seq ?_
   refine c_reg ?_
   refine sy (v := .bool (true)) (y_assign (v := .bool (true)) rfl) ?_
   refine c_nil ?_
   refine n_then ?_
   refine wp_ret ?_
   refine e_r1 Try.results104 (rv_t rfl) ?_
   exact ⟨_, rfl, congrArg Value.bool (decide_eq_true (rfl : l = l)).symm, H5.below⟩

end Go.Proofs.Ytdcmbcjkdhdohaa
