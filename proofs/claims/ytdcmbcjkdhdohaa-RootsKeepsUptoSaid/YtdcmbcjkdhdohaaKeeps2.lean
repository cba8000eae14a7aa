/- Walks: Book.Add, Book.Stays. -/
import Derived.Test.YtdcmbcjkdhdohaaKeeps1
namespace Go.Proofs.Ytdcmbcjkdhdohaa
open Go Go.RowKit
set_option linter.unusedSimpArgs false
set_option linter.unusedVariables false
attribute [local irreducible] wpList wpP Code.wp

/-- The first k bytes are c. -/
def fk (c : UInt8) (k : Nat) (l : List UInt8) : List UInt8 := List.replicate k c ++ l.drop k
theorem fk_length {c : UInt8} {k : Nat} {l : List UInt8} (h : k ≤ l.length) : (fk c k l).length = l.length := by
  simp [fk]; omega
theorem fk_step {c : UInt8} {k : Nat} {l : List UInt8} (h : k < l.length) : ((fk c k l).map B8).set k (B8 c) = (fk c (k + 1) l).map B8 := by
  rw [← List.map_set]
  congr 1
  unfold fk
  rw [List.set_append_right _ _ (by simp), List.length_replicate, Nat.sub_self, List.drop_eq_getElem_cons h, List.set_cons_zero, List.replicate_succ', List.append_assoc]
  rfl
theorem fk_end (c : UInt8) (l : List UInt8) : fk c l.length l = List.replicate l.length c := by simp [fk]
theorem rp_snoc (m : Nat) (c : UInt8) : (List.replicate m c).map B8 ++ [B8 c] = (List.replicate (m + 1) c).map B8 := by
  rw [List.replicate_succ', List.map_append]; rfl
theorem rp_get {m k : Nat} {c : UInt8} (h : k < m) : (List.replicate m c).getD k 0 = c := by
  rw [List.getD_eq_getElem?_getD, List.getElem?_replicate, if_pos h]; rfl
/-- The byte of the i-th. -/
def bc (i : Nat) : UInt8 := b8 ((1 + i % 250 : Nat) : Int)
/-- Slices that came in, full of their bytes, and what was grown out of them. -/
def PairsP : Nat → List Value → List Value → Part → Prop
  | _, [], [], F => F = []
  | k, x :: xs, u :: us, F => ∃ n m F1 F2, F = F1 ++ F2 ∧ TS 5 1 x n ((List.replicate n (bc k)).map B8) u m ((List.replicate m (bc k)).map B8) F1 ∧ n ≤ 1099511627776 ∧ m ≤ 1099511627776 ∧ PairsP (k + 1) xs us F2
  | _, _, _, _ => False
theorem PairsP.len : ∀ {k : Nat} {xs us : List Value} {F : Part}, PairsP k xs us F → xs.length = us.length
  | _, [], [], _, _ => rfl
  | _, _ :: _, _ :: _, _, ⟨_, _, _, _, _, _, _, _, h⟩ => by rw [List.length_cons, List.length_cons, PairsP.len h]
  | _, [], _ :: _, _, h => h.elim
  | _, _ :: _, [], _, h => h.elim
theorem PairsP.snoc {x u : Value} {n m : Nat} {E : Part} : ∀ {k : Nat} {xs us : List Value} {F : Part}, PairsP k xs us F → TS 5 1 x n ((List.replicate n (bc (k + xs.length))).map B8) u m ((List.replicate m (bc (k + xs.length))).map B8) E → n ≤ 1099511627776 → m ≤ 1099511627776 → PairsP k (xs ++ [x]) (us ++ [u]) (F ++ E)
  | k, [], [], _, h, ht, h1, h2 => by cases h; exact ⟨n, m, E, [], by simp, ht, h1, h2, rfl⟩
  | k, _ :: xs, _ :: _, _, ⟨n', m', F1, F2, e, h1, h2, h3, h4⟩, ht, q1, q2 => ⟨n', m', F1, F2 ++ E, by rw [e, List.append_assoc], h1, h2, h3, PairsP.snoc h4 (by rw [show k + 1 + xs.length = k + (xs.length + 1) by omega]; exact ht) q1 q2⟩
  | _, [], _ :: _, _, h, _, _, _ => h.elim
  | _, _ :: _, [], _, h, _, _, _ => h.elim
theorem PairsP.rds {w w0 : World} {X : List Nat} {L : List Part} : ∀ {k : Nat} {xs us : List Value} {F : Part}, PairsP k xs us F → St w0 X (F :: L) w → ∀ i, i < xs.length → ∃ n m, n ≤ 1099511627776 ∧ m ≤ 1099511627776 ∧ Rd [] w 1 (xs.getD i undef) n ((List.replicate n (bc (k + i))).map B8) ∧ Rd [] w 1 (us.getD i undef) m ((List.replicate m (bc (k + i))).map B8)
  | _, [], [], _, _, _, i, hi => absurd hi (by simp)
  | k, _ :: _, _ :: _, _, ⟨n, m, F1, F2, e, h1, h2, h3, h4⟩, H, 0, _ => by
    subst e
    exact ⟨n, m, h2, h3, h1.rdx H.subL 0 rfl, h1.rdu H.subL 0 rfl⟩
  | k, _ :: _, _ :: _, _, ⟨n, m, F1, F2, e, h1, h2, h3, h4⟩, H, i + 1, hi => by
    subst e
    have := PairsP.rds h4 H.subR i (by simpa using hi)
    rwa [show k + 1 + i = k + (i + 1) by omega] at this
  | _, [], _ :: _, _, h, _, _, _ => h.elim
  | _, _ :: _, [], _, h, _, _, _ => h.elim
/-- A book of slices: its block, its two lists, what they hold. -/
def BookA (g tot : Nat) (xs us : List Value) (EB : Part) : Prop := ∃ s1 s2 E1 E2 F, EB = (([(g, Rw 71 [s1, s2, I ((tot : Nat) : Int), .bool false])] ++ E1) ++ E2) ++ F ∧ OS 23 1 s1 xs.length xs E1 ∧ OS 23 1 s2 us.length us E2 ∧ PairsP 0 xs us F ∧
  (∀ p ∈ ([(g, Rw 71 [s1, s2, I ((tot : Nat) : Int), .bool false])] : Part), ∀ q ∈ E1, p.1 ≠ q.1) ∧ (∀ p ∈ ([(g, Rw 71 [s1, s2, I ((tot : Nat) : Int), .bool false])] ++ E1 : Part), ∀ q ∈ E2, p.1 ≠ q.1) ∧
  (∀ p ∈ (([(g, Rw 71 [s1, s2, I ((tot : Nat) : Int), .bool false])] ++ E1) ++ E2 : Part), ∀ q ∈ F, p.1 ≠ q.1)
theorem booka_new (g : Nat) : BookA g 0 [] [] [(g, Rw 71 [.slice none 0 0, .slice none 0 0, I ((0 : Nat) : Int), .bool false])] := ⟨_, _, [], [], [], rfl, OS.nil 23 1, OS.nil 23 1, rfl, by simp, by simp, by simp⟩
theorem booka_mk {g tot : Nat} {xs us : List Value} {s1 s2 : Value} {E1 E2 F : Part} {w w0 : World} {X : List Nat} {L : List Part} (h1 : OS 23 1 s1 xs.length xs E1) (h2 : OS 23 1 s2 us.length us E2) (hF : PairsP 0 xs us F) (H : St w0 X (F :: E2 :: E1 :: [(g, Rw 71 [s1, s2, I ((tot : Nat) : Int), .bool false])] :: L) w) :
    BookA g tot xs us ((([(g, Rw 71 [s1, s2, I ((tot : Nat) : Int), .bool false])] ++ E1) ++ E2) ++ F) ∧ St w0 X (((([(g, Rw 71 [s1, s2, I ((tot : Nat) : Int), .bool false])] ++ E1) ++ E2) ++ F) :: L) w := by
  obtain ⟨H1, d1⟩ := (H.foc 2 rfl rfl |>.foc 3 rfl rfl |>.foc 1 rfl rfl).join
  obtain ⟨H2, d2⟩ := (H1.foc 2 rfl rfl).join
  obtain ⟨H3, d3⟩ := (H2.foc 1 rfl rfl).join
  exact ⟨⟨s1, s2, E1, E2, F, rfl, h1, h2, hF, d1, d2, d3⟩, H3⟩

attribute [local irreducible] leafH innerH topH rootH rootA sha

set_option maxHeartbeats 2000000 in
set_option maxRecDepth 20000 in
theorem add_c (g tot : Nat) (xs us : List Value) (EB Ev : Part) (v0 : Value) (l : List UInt8) (w : World) (hB : BookA g tot xs us EB) (hO : OS 5 1 v0 l.length (l.map B8) Ev) (hd : ∀ p ∈ EB, ∀ q ∈ Ev, p.1 ≠ q.1) (hown : ∀ p ∈ (EB ++ Ev : Part), w.heap[p.1]? = some p.2) (hx : xs.length < 20000) (ht : tot + l.length < 16777216) :
    Calls Try.prog 51 (([Ad (bs g) (0), v0] : List Value).toArray) w (fun e w' => ∃ v, e = .returned v ∧ v = .tuple #[] ∧ ∃ (u : Value) (EB' : Part), BookA g (tot + l.length) (xs ++ [v0]) (us ++ [u]) EB' ∧ St w ((EB ++ Ev).map (·.1)) [EB'] w') := by
 obtain ⟨s1, s2, E1, E2, F, rfl, ho1, ho2, hP, hd1, hd2, hd3⟩ := hB
 have hxu := hP.len
 refine calls_mk Try.func51 rfl 96 Try.ntmps51 rfl ?_
 have H0 : St w ((((([(g, Rw 71 [s1, s2, I ((tot : Nat) : Int), .bool false])] ++ E1) ++ E2) ++ F) ++ Ev).map (·.1)) [E1, [(g, Rw 71 ([s1, s2, I ((tot : Nat) : Int), .bool (false)]))], E2, F, Ev] w := ((((((((St.initE hown).split hd).foc 1 rfl rfl).split hd3).foc 1 rfl rfl).split hd2).foc 1 rfl rfl).split hd1)
 refine c_seq ?_
 refine c_reg ?_
 refine sy (v := Ad (bs g) (0)) (y_move rfl) ?_
 refine sy (v := Ad (bs g) (0)) (y_nilCheck rfl) ?_
 refine sy (v := Ad (bs g) (0 + 2)) (y_fld Try.underlying71 rfl rfl sz3 (by decide) rfl) ?_
 refine sy (v := I ((tot : Nat) : Int)) (y_load sc3 rfl (H0.cell 1 rfl rfl)) ?_
 refine sy (v := v0) (y_move rfl) ?_
 refine sy (v := I ((l.length : Nat) : Int)) (y_lenR Try.underlying23 (hO.rd H0 4 rfl) rfl) ?_
 refine sy (v := I ((tot + l.length : Nat) : Int)) (n_add (a := tot) (b := l.length) rfl rfl (by omega)) ?_
 refine sy (v := Ad (bs g) (0)) (y_nilCheck rfl) ?_
 refine sy (v := Ad (bs g) (0 + 2)) (y_fld Try.underlying71 rfl rfl sz3 (by decide) rfl) ?_
 have H1 : St w _ [_, _, _, _, _] w := H0.foc 1 rfl rfl
 refine s0 (ow_store (j := 2) H1 sz3 rfl rfl rfl rfl (by simp)) ?_
 rintro _ w2 H3'
 have H3 : St w _ [[(g, Rw 71 ([s1, s2, I ((tot + l.length : Nat) : Int), .bool (false)]))], _, _, _, _] w2 := H3'
 refine c_nil ?_
 refine n_then ?_
 refine c_seq ?_
 refine c_seq ?_
 refine c_reg ?_
 refine sy (v := Ad (bs g) (0)) (y_move rfl) ?_
 refine sy (v := Ad (bs g) (0)) (y_nilCheck rfl) ?_
 refine sy (v := Ad (bs g) (0 + 0)) (y_fld Try.underlying71 rfl rfl sz36 (by decide) rfl) ?_
 refine sy (v := s1) (y_load sc36 rfl (H3.cell 0 rfl rfl)) ?_
 refine sy (v := I ((xs.length : Nat) : Int)) (y_lenR Try.underlying36 (ho1.rd H3 1 rfl) rfl) ?_
 refine sy (v := .bool (decide (20000 ≤ xs.length))) (n_geq (a := xs.length) (b := 20000) rfl rfl) ?_
 refine sy (v := .bool (decide (20000 ≤ xs.length))) (y_move rfl) ?_
 have hq4 : ¬ (20000 ≤ xs.length) := (by omega)
 refine gsy (v := Ad (bs g) (0)) (gv_of (t := 24) rfl rfl rfl) (decide_eq_false hq4) (y_move rfl) ?_
 refine gsy (v := Ad (bs g) (0)) (gv_of (t := 24) rfl rfl rfl) (decide_eq_false hq4) (y_nilCheck rfl) ?_
 refine gsy (v := Ad (bs g) (0 + 2)) (gv_of (t := 24) rfl rfl rfl) (decide_eq_false hq4) (y_fld Try.underlying71 rfl rfl sz3 (by decide) rfl) ?_
 refine gsy (v := I ((tot + l.length : Nat) : Int)) (gv_of (t := 24) rfl rfl rfl) (decide_eq_false hq4) (y_load sc3 rfl (H3.cell 0 rfl rfl)) ?_
 refine gsy (v := .bool (decide (16777216 ≤ (tot + l.length)))) (gv_of (t := 24) rfl rfl rfl) (decide_eq_false hq4) (n_geq (a := tot + l.length) (b := 16777216) rfl rfl) ?_
 refine sy (v := .bool (decide (16777216 ≤ (tot + l.length)))) (y_pickF rfl (decide_eq_false hq4) rfl) ?_
 refine c_nil ?_
 refine n_then ?_
 have hq5 : ¬ (16777216 ≤ (tot + l.length)) := (by omega)
 refine c_f rfl (decide_eq_false hq5) ?_
 refine wp_skip ?_
 refine n_then ?_
 refine c_seq ?_
 refine c_reg ?_
 refine sy (v := Ad (bs g) (0)) (y_move rfl) ?_
 refine sy (v := Ad (bs g) (0)) (y_nilCheck rfl) ?_
 refine sy (v := Ad (bs g) (0 + 0)) (y_fld Try.underlying71 rfl rfl sz36 (by decide) rfl) ?_
 refine sy (v := s1) (y_load sc36 rfl (H3.cell 0 rfl rfl)) ?_
 refine sy (v := I ((xs.length : Nat) : Int)) (y_lenR Try.underlying36 (ho1.rd H3 1 rfl) rfl) ?_
 refine sy (v := I ((xs.length % 250 : Nat) : Int)) (n_rem (a := xs.length) (b := 250) rfl rfl (by omega)) ?_
 refine sy (v := I ((1 + (xs.length % 250) : Nat) : Int)) (n_add (a := 1) (b := xs.length % 250) rfl rfl (by omega)) ?_
 refine sy (v := B8 (b8 ((1 + (xs.length % 250) : Nat)))) (y_conv_I_8 Try.underlying3 Try.underlying5 rfl) ?_
 refine sy (v := B8 (b8 ((1 + (xs.length % 250) : Nat)))) (y_assign rfl) ?_
 refine c_nil ?_
 refine n_then ?_
 refine c_seq ?_
 refine c_seq ?_
 refine c_reg ?_
 refine sy (v := I ((0 : Nat) : Int)) (y_assign (v := I ((0 : Nat) : Int)) rfl) ?_
 refine c_nil ?_
 refine n_then ?_
 refine wp_block ?_
 refine c_loop (fun (i : Nat) f6 w7 => ∃ (EK : Part), f6 0 = Ad (bs g) (0) ∧ f6 1 = v0 ∧ f6 5 = B8 (b8 ((1 + (xs.length % 250) : Nat))) ∧ f6 6 = I ((i : Nat) : Int) ∧ i ≤ l.length ∧ OS 5 1 v0 l.length ((fk (bc xs.length) i l).map B8) EK ∧ St w ((((([(g, Rw 71 [s1, s2, I ((tot : Nat) : Int), .bool false])] ++ E1) ++ E2) ++ F) ++ Ev).map (·.1)) [[(g, Rw 71 ([s1, s2, I ((tot + l.length : Nat) : Int), .bool (false)]))], E1, E2, F, EK] w7) (fun i => l.length - i) 0 ⟨Ev, rfl, rfl, rfl, rfl, (Nat.zero_le _), hO, H3⟩ ?_
 rintro i f6 w7 ⟨EK, s0_8, s1_8, s5_8, s6_8, hi, hoK, H8⟩
 refine c_seq ?_
 refine c_seq ?_
 refine c_reg ?_
 refine sy (v := I ((i : Nat) : Int)) (y_move s6_8) ?_
 refine sy (v := v0) (y_move s1_8) ?_
 refine sy (v := I ((l.length : Nat) : Int)) (y_lenR Try.underlying23 (hoK.rd H8 4 rfl) rfl) ?_
 refine sy (v := .bool (decide (i < l.length))) (n_lss (a := i) (b := l.length) rfl rfl) ?_
 refine c_nil ?_
 refine n_then ?_
 refine c_if rfl (fun hc9 => ?_) (fun hc9 => ?_)
 ·
  refine wp_skip ?_
  refine n_then ?_
  refine c_seq ?_
  refine wp_block ?_
  refine c_reg ?_
  refine sy (v := v0) (y_move s1_8) ?_
  refine sy (v := I ((i : Nat) : Int)) (y_move s6_8) ?_
  refine sy (v := B8 (b8 ((1 + (xs.length % 250) : Nat)))) (y_move s5_8) ?_
  refine sy (v := Ad (sp (v0)) (i * 1)) (y_ixR (m := i) Try.underlying23 sz5 (hoK.rd H8 4 rfl) (by decide) rfl rfl rfl (by omega)) ?_
  have H10 : St w _ [_, _, _, _, _] w7 := H8.foc 4 rfl rfl
  refine s0 (ow_storeOS (i := i) hoK H10 sz5 rfl rfl rfl (by omega) (by omega)) ?_
  rintro _ w12 ⟨E11, ho14, H13⟩
  refine c_nil ?_
  refine n_block (n_then ?_)
  refine c_reg ?_
  refine sy (v := I ((i : Nat) : Int)) (y_move s6_8) ?_
  refine sy (v := I ((i + 1 : Nat) : Int)) (n_add (a := i) (b := 1) rfl rfl (by omega)) ?_
  refine sy (v := I ((i + 1 : Nat) : Int)) (y_assign rfl) ?_
  refine c_nil ?_
  have H15 : St w _ [_, _, _, _, _] w12 := H13.foc 4 rfl rfl
  have H16 : St w _ [_, _, _, _, _] w12 := H15.foc 4 rfl rfl
  have H17 : St w _ [_, _, _, _, _] w12 := H16.foc 4 rfl rfl
  have H18 : St w _ [_, _, _, _, _] w12 := H17.foc 4 rfl rfl
  exact lp_next (i + 1) ⟨E11, s0_8, s1_8, s5_8, rfl, (by omega), (fk_step (c := bc xs.length) (k := i) (l := l) (by omega) ▸ ho14), H18⟩ (by show _ < _; omega)
 ·
  obtain rfl : i = l.length := by omega
  rw [fk_end] at hoK
  refine wp_exit ?_
  refine x_then (x_then (x_hit (n_then ?_)))
  refine c_seq ?_
  refine c_reg ?_
  refine sy (v := v0) (y_move s1_8) ?_
  refine sy (v := v0) (y_assign rfl) ?_
  refine c_nil ?_
  refine n_then ?_
  refine c_seq ?_
  refine c_seq ?_
  refine c_reg ?_
  refine sy (v := I ((0 : Nat) : Int)) (y_assign (v := I ((0 : Nat) : Int)) rfl) ?_
  refine c_nil ?_
  refine n_then ?_
  refine wp_block ?_
  refine c_loop (fun (j : Nat) f19 w20 => ∃ (uv : Value), ∃ (EZ : Part), f19 0 = Ad (bs g) (0) ∧ f19 1 = v0 ∧ f19 5 = B8 (b8 ((1 + (xs.length % 250) : Nat))) ∧ f19 7 = uv ∧ f19 8 = I ((j : Nat) : Int) ∧ j ≤ 60 ∧ TS 5 1 v0 l.length ((List.replicate l.length (bc xs.length)).map B8) uv (l.length + j) ((List.replicate (l.length + j) (bc xs.length)).map B8) EZ ∧ St w ((((([(g, Rw 71 [s1, s2, I ((tot : Nat) : Int), .bool false])] ++ E1) ++ E2) ++ F) ++ Ev).map (·.1)) [[(g, Rw 71 ([s1, s2, I ((tot + l.length : Nat) : Int), .bool (false)]))], E1, E2, F, EZ] w20) (fun j => 60 - j) 0 ⟨_, _, s0_8, s1_8, s5_8, rfl, rfl, (by omega), (TS.refl hoK), H8⟩ ?_
  rintro j f19 w20 ⟨uv, EZ, s0_21, s1_21, s5_21, s7_21, s8_21, hj, hts, H21⟩
  refine c_seq ?_
  refine c_seq ?_
  refine c_reg ?_
  refine sy (v := I ((j : Nat) : Int)) (y_move s8_21) ?_
  refine sy (v := .bool (decide (j < 60))) (n_lss (a := j) (b := 60) rfl rfl) ?_
  refine c_nil ?_
  refine n_then ?_
  refine c_if rfl (fun hc22 => ?_) (fun hc22 => ?_)
  ·
   refine wp_skip ?_
   refine n_then ?_
   refine c_seq ?_
   refine wp_block ?_
   refine c_reg ?_
   refine sy (v := uv) (y_move s7_21) ?_
   refine sy (v := B8 (b8 ((1 + (xs.length % 250) : Nat)))) (y_move s5_21) ?_
   refine st (ow_buildSlice (pv := [(0, B8 (b8 ((1 + (xs.length % 250) : Nat))))]) (us := [B8 (b8 ((1 + (xs.length % 250) : Nat)))]) Try.underlying23 sz5 zr5 H21 ⟨⟨rfl, rfl⟩, trivial⟩ (by decide) (fill1 rfl)) ?_
   rintro _ w24 ⟨g23, rfl, H25⟩
   have H26 : St w _ [_, _, _, _, _, _] w24 := H25.foc 5 rfl rfl
   refine st (ow_append_ts Try.underlying23 sz5 zr5 bt5 rfl hts H26 rfl rfl ((rd_lit (k := 1) (us := [B8 (b8 ((1 + (xs.length % 250) : Nat)))]) H25 0 rfl rfl (by simp [maxLen])).src Try.underlying23 (by simp [Value.oneCell'])) (by omega) (by omega)) ?_
   rintro v28 w29 ⟨E27, ho31, H30⟩
   refine sy (v := v28) (y_assign rfl) ?_
   refine c_nil ?_
   refine n_block (n_then ?_)
   refine c_reg ?_
   refine sy (v := I ((j : Nat) : Int)) (y_move s8_21) ?_
   refine sy (v := I ((j + 1 : Nat) : Int)) (n_add (a := j) (b := 1) rfl rfl (by omega)) ?_
   refine sy (v := I ((j + 1 : Nat) : Int)) (y_assign rfl) ?_
   refine c_nil ?_
   have H32 : St w _ [_, _, _, _, _, _] w29 := H30.foc 5 rfl rfl
   have H33 : St w _ [_, _, _, _, _, _] w29 := H32.foc 5 rfl rfl
   have H34 : St w _ [_, _, _, _, _, _] w29 := H33.foc 5 rfl rfl
   have H35 : St w _ [_, _, _, _, _, _] w29 := H34.foc 5 rfl rfl
   have H36 : St w _ [_, _, _, _, _] w29 := H35.take 5 rfl
   exact lp_next (j + 1) ⟨v28, E27, s0_21, s1_21, s5_21, rfl, rfl, (by omega), (by rw [← Nat.add_assoc, ← rp_snoc]; exact ho31), H36⟩ (by show _ < _; omega)
  ·
   obtain rfl : j = 60 := by omega
   refine wp_exit ?_
   refine x_then (x_then (x_hit (n_then ?_)))
   refine c_seq ?_
   refine c_reg ?_
   refine sy (v := Ad (bs g) (0)) (y_move s0_21) ?_
   refine sy (v := Ad (bs g) (0)) (y_move s0_21) ?_
   refine sy (v := Ad (bs g) (0)) (y_nilCheck rfl) ?_
   refine sy (v := Ad (bs g) (0 + 0)) (y_fld Try.underlying71 rfl rfl sz36 (by decide) rfl) ?_
   refine sy (v := s1) (y_load sc36 rfl (H21.cell 0 rfl rfl)) ?_
   refine sy (v := v0) (y_move s1_21) ?_
   refine st (ow_buildSlice (pv := [(0, v0)]) (us := [v0]) Try.underlying36 sz23 zr23 H21 ⟨⟨rfl, rfl⟩, trivial⟩ (by decide) (fill1 (hts.rdx H21 4 rfl).cells)) ?_
   rintro _ w38 ⟨g37, rfl, H39⟩
   have H40 : St w _ [_, _, _, _, _, _] w38 := H39.foc 2 rfl rfl
   refine st (ow_append Try.underlying36 sz23 zr23 bt23 rfl ho1 H40 rfl rfl ((rd_lit (k := 1) (us := [v0]) H39 0 rfl rfl (by simp [maxLen])).src Try.underlying36 (by intro u hu; simp only [List.mem_cons, List.not_mem_nil, or_false] at hu; subst hu; exact Rd.one (hts.rdx H39 5 rfl))) (by first | omega | (simp only [List.length_append, List.length_cons, List.length_nil, List.length_take, List.length_drop, hmac_length, sha_length, List.length_replicate]; omega)) (by first | omega | (simp only [List.length_append, List.length_cons, List.length_nil, List.length_take, List.length_drop, hmac_length, sha_length, List.length_replicate]; omega))) ?_
   rintro v42 w43 ⟨E41, ho45, H44⟩
   refine sy (v := Ad (bs g) (0)) (y_nilCheck rfl) ?_
   refine sy (v := Ad (bs g) (0 + 0)) (y_fld Try.underlying71 rfl rfl sz36 (by decide) rfl) ?_
   have H46 : St w _ [_, _, _, _, _, _] w43 := H44.foc 2 rfl rfl
   refine s0 (ow_store (j := 0) H46 sz36 rfl rfl (Rd.one (ho45.rd H46 1 rfl)) rfl (by simp)) ?_
   rintro _ w47 H48'
   have H48 : St w _ [[(g, Rw 71 ([v42, s2, I ((tot + l.length : Nat) : Int), .bool (false)]))], _, _, _, _, _] w47 := H48'
   refine c_nil ?_
   refine n_then ?_
   refine c_reg ?_
   refine sy (v := Ad (bs g) (0)) (y_move s0_21) ?_
   refine sy (v := Ad (bs g) (0)) (y_move s0_21) ?_
   refine sy (v := Ad (bs g) (0)) (y_nilCheck rfl) ?_
   refine sy (v := Ad (bs g) (0 + 1)) (y_fld Try.underlying71 rfl rfl sz36 (by decide) rfl) ?_
   refine sy (v := s2) (y_load sc36 rfl (H48.cell 0 rfl rfl)) ?_
   refine sy (v := uv) (y_move s7_21) ?_
   refine st (ow_buildSlice (pv := [(0, uv)]) (us := [uv]) Try.underlying36 sz23 zr23 H48 ⟨⟨rfl, rfl⟩, trivial⟩ (by decide) (fill1 (hts.rdu H48 5 rfl).cells)) ?_
   rintro _ w50 ⟨g49, rfl, H51⟩
   have H52 : St w _ [_, _, _, _, _, _, _] w50 := H51.foc 4 rfl rfl
   refine st (ow_append Try.underlying36 sz23 zr23 bt23 rfl ho2 H52 rfl rfl ((rd_lit (k := 1) (us := [uv]) H51 0 rfl rfl (by simp [maxLen])).src Try.underlying36 (by intro u hu; simp only [List.mem_cons, List.not_mem_nil, or_false] at hu; subst hu; exact Rd.one (hts.rdu H51 6 rfl))) (by first | omega | (simp only [List.length_append, List.length_cons, List.length_nil, List.length_take, List.length_drop, hmac_length, sha_length, List.length_replicate]; omega)) (by first | omega | (simp only [List.length_append, List.length_cons, List.length_nil, List.length_take, List.length_drop, hmac_length, sha_length, List.length_replicate]; omega))) ?_
   rintro v54 w55 ⟨E53, ho57, H56⟩
   refine sy (v := Ad (bs g) (0)) (y_nilCheck rfl) ?_
   refine sy (v := Ad (bs g) (0 + 1)) (y_fld Try.underlying71 rfl rfl sz36 (by decide) rfl) ?_
   have H58 : St w _ [_, _, _, _, _, _, _] w55 := H56.foc 2 rfl rfl
   refine s0 (ow_store (j := 1) H58 sz36 rfl rfl (Rd.one (ho57.rd H58 1 rfl)) rfl (by simp)) ?_
   rintro _ w59 H60'
   have H60 : St w _ [[(g, Rw 71 ([v42, v54, I ((tot + l.length : Nat) : Int), .bool (false)]))], _, _, _, _, _, _] w59 := H60'
   refine c_nil ?_
   refine e_end0 Try.results51 ?_
   have H61 : St w _ [_, _, _, _, _, _, _] w59 := H60.foc 3 rfl rfl
   have H62 : St w _ [_, _, _, _, _, _, _] w59 := H61.foc 2 rfl rfl
   have H63 : St w _ [_, _, _, _, _, _, _] w59 := H62.foc 5 rfl rfl
   have H64 : St w _ [_, _, _, _, _, _, _] w59 := H63.foc 6 rfl rfl
   have H65 : St w _ [_, _, _, _, _] w59 := H64.take 5 rfl
   obtain ⟨H66, -⟩ := H65.join
   have hP2 : PairsP 0 (xs ++ [v0]) (us ++ [uv]) (F ++ EZ) := PairsP.snoc hP (by rw [Nat.zero_add]; exact hts) (by omega) (by omega)
   obtain ⟨hb1, hb2⟩ := booka_mk (g := g) (tot := tot + l.length) (xs := xs ++ [v0]) (us := us ++ [uv]) (by rw [List.length_append]; exact ho45) (by rw [List.length_append]; exact ho57) hP2 H66
   exact ⟨_, rfl, rfl, _, _, hb1, hb2⟩

/-- What is read of a book. -/
structure BookR (w : World) (g tot : Nat) (s1 s2 : Value) (xs us : List Value) : Prop where
  blk : w.heap[g]? = some (Rw 71 [s1, s2, I ((tot : Nat) : Int), .bool false])
  r1 : Rd [] w 1 s1 xs.length xs
  r2 : Rd [] w 1 s2 us.length us
  len : xs.length = us.length
  row : ∀ i, i < xs.length → ∃ n m, n ≤ 1099511627776 ∧ m ≤ 1099511627776 ∧ Rd [] w 1 (xs.getD i undef) n ((List.replicate n (bc i)).map B8) ∧ Rd [] w 1 (us.getD i undef) m ((List.replicate m (bc i)).map B8)
theorem BookA.rd {w w0 : World} {X : List Nat} {L : List Part} {g tot : Nat} {xs us : List Value} {EB : Part} (h : BookA g tot xs us EB) (H : St w0 X L w) (i : Nat) (hi : L[i]? = some EB) : ∃ s1 s2, BookR w g tot s1 s2 xs us := by
  obtain ⟨s1, s2, E1, E2, F, rfl, h1, h2, hP, -, -, -⟩ := h
  have H1 := H.foc i hi rfl
  refine ⟨s1, s2, H1.subL.subL.subL.own _ List.mem_cons_self (g, _) (by simp), h1.rd H1.subL.subL.subR 0 rfl, h2.rd H1.subL.subR 0 rfl, hP.len, fun i hi => ?_⟩
  have := hP.rds H1.subR i hi
  rwa [Nat.zero_add] at this

theorem stays_bc (g tot : Nat) (s1 s2 : Value) (xs us : List Value) (w : World) (hR : BookR w g tot s1 s2 xs us) (hl : xs.length ≤ 1099511627776) :
    Calls Try.prog 52 (([Ad (bs g) (0)] : List Value).toArray) w (fun e w' => ∃ v, e = .returned v ∧ v = .bool true ∧ Below w.heap.size w w') := by
 have hxu := hR.len
 refine calls_mk Try.func52 rfl 44 Try.ntmps52 rfl ?_
 have H0 : St w [] [] w := St.refl w
 refine c_seq ?_
 refine c_reg ?_
 refine sy (v := .bool (false)) (y_assign (v := .bool (false)) rfl) ?_
 refine c_nil ?_
 refine n_then ?_
 refine c_seq ?_
 refine c_seq ?_
 refine c_reg ?_
 refine sy (v := Ad (bs g) (0)) (y_move rfl) ?_
 refine sy (v := Ad (bs g) (0)) (y_nilCheck rfl) ?_
 refine sy (v := Ad (bs g) (0 + 3)) (y_fld Try.underlying71 rfl rfl sz4 (by decide) rfl) ?_
 refine sy (v := .bool (false)) (y_load sc4 rfl (H0.oldCell hR.blk (by simp) rfl)) ?_
 refine c_nil ?_
 refine n_then ?_
 refine c_f rfl rfl ?_
 refine wp_skip ?_
 refine n_then ?_
 refine c_seq ?_
 refine c_seq ?_
 refine c_reg ?_
 refine sy (v := I ((0 : Nat) : Int)) (y_assign (v := I ((0 : Nat) : Int)) rfl) ?_
 refine c_nil ?_
 refine n_then ?_
 refine wp_block ?_
 refine c_loop (fun (i : Nat) f1 w2 => f1 0 = Ad (bs g) (0) ∧ f1 3 = I ((i : Nat) : Int) ∧ i ≤ xs.length ∧ St w [] [] w2) (fun i => xs.length - i) 0 ⟨rfl, rfl, (Nat.zero_le _), H0⟩ ?_
 rintro i f1 w2 ⟨s0_3, s3_3, hf0_3, H3⟩
 refine c_seq ?_
 refine c_seq ?_
 refine c_reg ?_
 refine sy (v := I ((i : Nat) : Int)) (y_move s3_3) ?_
 refine sy (v := Ad (bs g) (0)) (y_move s0_3) ?_
 refine sy (v := Ad (bs g) (0)) (y_nilCheck rfl) ?_
 refine sy (v := Ad (bs g) (0 + 0)) (y_fld Try.underlying71 rfl rfl sz36 (by decide) rfl) ?_
 refine sy (v := s1) (y_load sc36 rfl (H3.oldCell hR.blk (by simp) rfl)) ?_
 refine sy (v := I ((xs.length : Nat) : Int)) (y_lenR Try.underlying36 (hR.r1.st H3) rfl) ?_
 refine sy (v := .bool (decide (i < xs.length))) (n_lss (a := i) (b := xs.length) rfl rfl) ?_
 refine c_nil ?_
 refine n_then ?_
 refine c_if rfl (fun hc4 => ?_) (fun hc4 => ?_)
 ·
  refine wp_skip ?_
  refine n_then ?_
  refine c_seq ?_
  refine wp_block ?_
  refine c_seq ?_
  refine c_reg ?_
  refine sy (v := I ((i : Nat) : Int)) (y_move s3_3) ?_
  refine sy (v := I ((i % 250 : Nat) : Int)) (n_rem (a := i) (b := 250) rfl rfl (by omega)) ?_
  refine sy (v := I ((1 + (i % 250) : Nat) : Int)) (n_add (a := 1) (b := i % 250) rfl rfl (by omega)) ?_
  refine sy (v := B8 (b8 ((1 + (i % 250) : Nat)))) (y_conv_I_8 Try.underlying3 Try.underlying5 rfl) ?_
  refine sy (v := B8 (b8 ((1 + (i % 250) : Nat)))) (y_assign rfl) ?_
  refine c_nil ?_
  refine n_then ?_
  refine c_seq ?_
  obtain ⟨n, m, hn, hm, hx, hu⟩ := hR.row i (by omega)
  refine c_reg ?_
  refine sy (v := Ad (bs g) (0)) (y_move s0_3) ?_
  refine sy (v := Ad (bs g) (0)) (y_nilCheck rfl) ?_
  refine sy (v := Ad (bs g) (0 + 0)) (y_fld Try.underlying71 rfl rfl sz36 (by decide) rfl) ?_
  refine sy (v := s1) (y_load sc36 rfl (H3.oldCell hR.blk (by simp) rfl)) ?_
  refine sy (v := I ((i : Nat) : Int)) (y_move s3_3) ?_
  refine sy (v := Ad (sp (s1)) (i * 1)) (y_ixR (m := i) Try.underlying36 sz23 (hR.r1.st H3) (by decide) rfl rfl rfl (by omega)) ?_
  refine sy (v := xs.getD i undef) (y_load sc23 rfl ((hR.r1.st H3).cell _ _ (by rw [Nat.mul_one]; exact getD_get (by omega)))) ?_
  refine sy (v := B8 (b8 ((1 + (i % 250) : Nat)))) (y_move rfl) ?_
  refine st (ow_call fn105 rfl (full_c (xs.getD i undef) (List.replicate n (bc i)) (bc i) _ (by rw [List.length_replicate]; exact (hx.st H3)) (by rw [List.length_replicate]; omega) (fun j hj => rp_get (by rwa [List.length_replicate] at hj))) ⟨rfl, rfl, trivial⟩) ?_
  rintro _ w5 ⟨rfl, hB6⟩
  have H7 : St w _ [] w5 := H3.call hB6
  refine sy (v := .bool (false)) (y_not (p := true) rfl) ?_
  refine sy (v := .bool (false)) (y_move rfl) ?_
  refine gsy (v := Ad (bs g) (0)) (gv_of (t := 32) rfl rfl rfl) (rfl) (y_move s0_3) ?_
  refine gsy (v := Ad (bs g) (0)) (gv_of (t := 32) rfl rfl rfl) (rfl) (y_nilCheck rfl) ?_
  refine gsy (v := Ad (bs g) (0 + 1)) (gv_of (t := 32) rfl rfl rfl) (rfl) (y_fld Try.underlying71 rfl rfl sz36 (by decide) rfl) ?_
  refine gsy (v := s2) (gv_of (t := 32) rfl rfl rfl) (rfl) (y_load sc36 rfl (H7.oldCell hR.blk (by simp) rfl)) ?_
  refine gsy (v := I ((i : Nat) : Int)) (gv_of (t := 32) rfl rfl rfl) (rfl) (y_move s3_3) ?_
  refine gsy (v := Ad (sp (s2)) (i * 1)) (gv_of (t := 32) rfl rfl rfl) (rfl) (y_ixR (m := i) Try.underlying36 sz23 (hR.r2.st H7) (by decide) rfl rfl rfl (by omega)) ?_
  refine gsy (v := us.getD i undef) (gv_of (t := 32) rfl rfl rfl) (rfl) (y_load sc23 rfl ((hR.r2.st H7).cell _ _ (by rw [Nat.mul_one]; exact getD_get (by omega)))) ?_
  refine gsy (v := B8 (b8 ((1 + (i % 250) : Nat)))) (gv_of (t := 32) rfl rfl rfl) (rfl) (y_move rfl) ?_
  refine gst (gv_of (t := 32) rfl rfl rfl) (rfl) (ow_call fn105 rfl (full_c (us.getD i undef) (List.replicate m (bc i)) (bc i) _ (by rw [List.length_replicate]; exact (hu.st H7)) (by rw [List.length_replicate]; omega) (fun j hj => rp_get (by rwa [List.length_replicate] at hj))) ⟨rfl, rfl, trivial⟩) ?_
  rintro _ w8 ⟨rfl, hB9⟩
  have H10 : St w _ [] w8 := H7.call hB9
  refine gsy (v := .bool (false)) (gv_of (t := 32) rfl rfl rfl) (rfl) (y_not (p := true) rfl) ?_
  refine sy (v := .bool (false)) (y_pickF rfl (rfl) rfl) ?_
  refine c_nil ?_
  refine n_then ?_
  refine c_f rfl rfl ?_
  refine wp_skip ?_
  refine n_block (n_then ?_)
  refine c_reg ?_
  refine sy (v := I ((i : Nat) : Int)) (y_move s3_3) ?_
  refine sy (v := I ((i + 1 : Nat) : Int)) (n_add (a := i) (b := 1) rfl rfl (by omega)) ?_
  refine sy (v := I ((i + 1 : Nat) : Int)) (y_assign rfl) ?_
  refine c_nil ?_
  exact lp_next (i + 1) ⟨s0_3, rfl, (by omega), H10⟩ (by show _ < _; omega)
 ·
  refine wp_exit ?_
  refine x_then (x_then (x_hit (n_then ?_)))
  refine c_seq ?_
  refine c_reg ?_
  refine sy (v := .bool (true)) (y_assign (v := .bool (true)) rfl) ?_
  refine c_nil ?_
  refine n_then ?_
  refine wp_ret ?_
  refine e_r1 Try.results52 (rv_t rfl) ?_
  exact ⟨_, rfl, rfl, H3.below⟩

end Go.Proofs.Ytdcmbcjkdhdohaa
