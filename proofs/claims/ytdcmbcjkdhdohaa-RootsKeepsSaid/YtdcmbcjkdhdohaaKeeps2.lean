/- Walks: Book.Add, Book.Stays. -/
import Derived.Test.YtdcmbcjkdhdohaaKeeps1
namespace Go.Proofs.Ytdcmbcjkdhdohaa
open Go Go.RowKit
set_option linter.unusedSimpArgs false
set_option linter.unusedVariables false
attribute [local irreducible] wpList wpP Code.wp

/-- The first k bytes are c. -/
def fk (c : UInt8) (k : Nat) (l : List UInt8) : List UInt8 := List.replicate k c ++ l.drop k
theorem fk_length {c : UInt8} {k : Nat} {l : List UInt8} (h : k ≤ l.length) : (fk c k l).length = l.length := by
  simp [fk]; omega
theorem fk_step {c : UInt8} {k : Nat} {l : List UInt8} (h : k < l.length) : ((fk c k l).map B8).set k (B8 c) = (fk c (k + 1) l).map B8 := by
  rw [← List.map_set]
  congr 1
  unfold fk
  rw [List.set_append_right _ _ (by simp), List.length_replicate, Nat.sub_self, List.drop_eq_getElem_cons h, List.set_cons_zero, List.replicate_succ', List.append_assoc]
  rfl
theorem fk_end (c : UInt8) (l : List UInt8) : fk c l.length l = List.replicate l.length c := by simp [fk]
theorem rp_snoc (m : Nat) (c : UInt8) : (List.replicate m c).map B8 ++ [B8 c] = (List.replicate (m + 1) c).map B8 := by
  rw [List.replicate_succ', List.map_append]; rfl
theorem rp_get {m k : Nat} {c : UInt8} (h : k < m) : (List.replicate m c).getD k 0 = c := by
  rw [List.getD_eq_getElem?_getD, List.getElem?_replicate, if_pos h]; rfl
/-- The byte of the i-th. -/
def bc (i : Nat) : UInt8 := b8 ((1 + i % 250 : Nat) : Int)
/-- Slices that came in, full of their bytes, and what was grown out of them. -/
def PairsP : Nat → List Value → List Value → Part → Prop
  | _, [], [], F => F = []
  | k, x :: xs, u :: us, F => ∃ n m F1 F2, F = F1 ++ F2 ∧ TS 5 1 x n ((List.replicate n (bc k)).map B8) u m ((List.replicate m (bc k)).map B8) F1 ∧ n ≤ 1099511627776 ∧ m ≤ 1099511627776 ∧ PairsP (k + 1) xs us F2
  | _, _, _, _ => False
theorem PairsP.len : ∀ {k : Nat} {xs us : List Value} {F : Part}, PairsP k xs us F → xs.length = us.length
  | _, [], [], _, _ => rfl
  | _, _ :: _, _ :: _, _, ⟨_, _, _, _, _, _, _, _, h⟩ => by rw [List.length_cons, List.length_cons, PairsP.len h]
  | _, [], _ :: _, _, h => h.elim
  | _, _ :: _, [], _, h => h.elim
theorem PairsP.snoc {x u : Value} {n m : Nat} {E : Part} : ∀ {k : Nat} {xs us : List Value} {F : Part}, PairsP k xs us F → TS 5 1 x n ((List.replicate n (bc (k + xs.length))).map B8) u m ((List.replicate m (bc (k + xs.length))).map B8) E → n ≤ 1099511627776 → m ≤ 1099511627776 → PairsP k (xs ++ [x]) (us ++ [u]) (F ++ E)
  | k, [], [], _, h, ht, h1, h2 => by cases h; exact ⟨n, m, E, [], by simp, ht, h1, h2, rfl⟩
  | k, _ :: xs, _ :: _, _, ⟨n', m', F1, F2, e, h1, h2, h3, h4⟩, ht, q1, q2 => ⟨n', m', F1, F2 ++ E, by rw [e, List.append_assoc], h1, h2, h3, PairsP.snoc h4 (by rw [show k + 1 + xs.length = k + (xs.length + 1) by omega]; exact ht) q1 q2⟩
  | _, [], _ :: _, _, h, _, _, _ => h.elim
  | _, _ :: _, [], _, h, _, _, _ => h.elim
theorem PairsP.rds {w w0 : World} {X : List Nat} {L : List Part} : ∀ {k : Nat} {xs us : List Value} {F : Part}, PairsP k xs us F → St w0 X (F :: L) w → ∀ i, i < xs.length → ∃ n m, n ≤ 1099511627776 ∧ m ≤ 1099511627776 ∧ Rd [] w 1 (xs.getD i undef) n ((List.replicate n (bc (k + i))).map B8) ∧ Rd [] w 1 (us.getD i undef) m ((List.replicate m (bc (k + i))).map B8)
  | _, [], [], _, _, _, i, hi => absurd hi (by simp)
  | k, _ :: _, _ :: _, _, ⟨n, m, F1, F2, e, h1, h2, h3, h4⟩, H, 0, _ => by
    subst e
    exact ⟨n, m, h2, h3, h1.rdx H.subL 0 rfl, h1.rdu H.subL 0 rfl⟩
  | k, _ :: _, _ :: _, _, ⟨n, m, F1, F2, e, h1, h2, h3, h4⟩, H, i + 1, hi => by
    subst e
    have := PairsP.rds h4 H.subR i (by simpa using hi)
    rwa [show k + 1 + i = k + (i + 1) by omega] at this
  | _, [], _ :: _, _, h, _, _, _ => h.elim
  | _, _ :: _, [], _, h, _, _, _ => h.elim
/-- A book of slices: its block, its two lists, what they hold. -/
def BookA (g tot : Nat) (xs us : List Value) (EB : Part) : Prop := ∃ s1 s2 E1 E2 F, EB = (([(g, Rw 71 [s1, s2, I ((tot : Nat) : Int), .bool false])] ++ E1) ++ E2) ++ F ∧ OS 23 1 s1 xs.length xs E1 ∧ OS 23 1 s2 us.length us E2 ∧ PairsP 0 xs us F ∧
  (∀ p ∈ ([(g, Rw 71 [s1, s2, I ((tot : Nat) : Int), .bool false])] : Part), ∀ q ∈ E1, p.1 ≠ q.1) ∧ (∀ p ∈ ([(g, Rw 71 [s1, s2, I ((tot : Nat) : Int), .bool false])] ++ E1 : Part), ∀ q ∈ E2, p.1 ≠ q.1) ∧
  (∀ p ∈ (([(g, Rw 71 [s1, s2, I ((tot : Nat) : Int), .bool false])] ++ E1) ++ E2 : Part), ∀ q ∈ F, p.1 ≠ q.1)
theorem booka_new (g : Nat) : BookA g 0 [] [] [(g, Rw 71 [.slice none 0 0, .slice none 0 0, I ((0 : Nat) : Int), .bool false])] := ⟨_, _, [], [], [], rfl, OS.nil 23 1, OS.nil 23 1, rfl, by simp, by simp, by simp⟩
theorem booka_mk {g tot : Nat} {xs us : List Value} {s1 s2 : Value} {E1 E2 F : Part} {w w0 : World} {X : List Nat} {L : List Part} (h1 : OS 23 1 s1 xs.length xs E1) (h2 : OS 23 1 s2 us.length us E2) (hF : PairsP 0 xs us F) (H : St w0 X (F :: E2 :: E1 :: [(g, Rw 71 [s1, s2, I ((tot : Nat) : Int), .bool false])] :: L) w) :
    BookA g tot xs us ((([(g, Rw 71 [s1, s2, I ((tot : Nat) : Int), .bool false])] ++ E1) ++ E2) ++ F) ∧ St w0 X (((([(g, Rw 71 [s1, s2, I ((tot : Nat) : Int), .bool false])] ++ E1) ++ E2) ++ F) :: L) w := by
  obtain ⟨H1, d1⟩ := (H.foc 2 rfl rfl |>.foc 3 rfl rfl |>.foc 1 rfl rfl).join
  obtain ⟨H2, d2⟩ := (H1.foc 2 rfl rfl).join
  obtain ⟨H3, d3⟩ := (H2.foc 1 rfl rfl).join
  exact ⟨⟨s1, s2, E1, E2, F, rfl, h1, h2, hF, d1, d2, d3⟩, H3⟩

attribute [local irreducible] leafH innerH topH rootH rootA sha

/-- What is read of a book. -/
structure BookR (w : World) (g tot : Nat) (s1 s2 : Value) (xs us : List Value) : Prop where
  blk : w.heap[g]? = some (Rw 71 [s1, s2, I ((tot : Nat) : Int), .bool false])
  r1 : Rd [] w 1 s1 xs.length xs
  r2 : Rd [] w 1 s2 us.length us
  len : xs.length = us.length
  row : ∀ i, i < xs.length → ∃ n m, n ≤ 1099511627776 ∧ m ≤ 1099511627776 ∧ Rd [] w 1 (xs.getD i undef) n ((List.replicate n (bc i)).map B8) ∧ Rd [] w 1 (us.getD i undef) m ((List.replicate m (bc i)).map B8)
theorem BookA.rd {w w0 : World} {X : List Nat} {L : List Part} {g tot : Nat} {xs us : List Value} {EB : Part} (h : BookA g tot xs us EB) (H : St w0 X L w) (i : Nat) (hi : L[i]? = some EB) : ∃ s1 s2, BookR w g tot s1 s2 xs us := by
  obtain ⟨s1, s2, E1, E2, F, rfl, h1, h2, hP, -, -, -⟩ := h
  have H1 := H.foc i hi rfl
  refine ⟨s1, s2, H1.subL.subL.subL.own _ List.mem_cons_self (g, _) (by simp), h1.rd H1.subL.subL.subR 0 rfl, h2.rd H1.subL.subR 0 rfl, hP.len, fun i hi => ?_⟩
  have := hP.rds H1.subR i hi
  rwa [Nat.zero_add] at this

theorem stays_bc (g tot : Nat) (s1 s2 : Value) (xs us : List Value) (w : World) (hR : BookR w g tot s1 s2 xs us) (hl : xs.length ≤ 1099511627776) :
    Calls Try.prog 52 (([Ad (bs g) (0)] : List Value).toArray) w (fun e w' => ∃ v, e = .returned v ∧ v = .bool true ∧ Below w.heap.size w w') := by
 have hxu := hR.len
 refine calls_mk Try.func52 rfl 44 Try.ntmps52 rfl ?_
 have H0 : St w [] [] w := St.refl w
 refine c_seq ?_
 refine c_reg ?_
 refine sy (v := .bool (false)) (y_assign (v := .bool (false)) rfl) ?_
 refine c_nil ?_
 refine n_then ?_
 refine c_seq ?_
 refine c_seq ?_
 refine c_reg ?_
 refine sy (v := Ad (bs g) (0)) (y_move rfl) ?_
 refine sy (v := Ad (bs g) (0)) (y_nilCheck rfl) ?_
 refine sy (v := Ad (bs g) (0 + 3)) (y_fld Try.underlying71 rfl rfl sz4 (by decide) rfl) ?_
 refine sy (v := .bool (false)) (y_load sc4 rfl (H0.oldCell hR.blk (by simp) rfl)) ?_
 refine c_nil ?_
 refine n_then ?_
 refine c_f rfl rfl ?_
 refine wp_skip ?_
 refine n_then ?_
 refine c_seq ?_
 refine c_seq ?_
 refine c_reg ?_
 refine sy (v := I ((0 : Nat) : Int)) (y_assign (v := I ((0 : Nat) : Int)) rfl) ?_
 refine c_nil ?_
 refine n_then ?_
 refine wp_block ?_
 refine c_loop (fun (i : Nat) f1 w2 => f1 0 = Ad (bs g) (0) ∧ f1 3 = I ((i : Nat) : Int) ∧ i ≤ xs.length ∧ St w [] [] w2) (fun i => xs.length - i) 0 ⟨rfl, rfl, (Nat.zero_le _), H0⟩ ?_
 rintro i f1 w2 ⟨s0_3, s3_3, hf0_3, H3⟩
 refine c_seq ?_
 refine c_seq ?_
 refine c_reg ?_
 refine sy (v := I ((i : Nat) : Int)) (y_move s3_3) ?_
 refine sy (v := Ad (bs g) (0)) (y_move s0_3) ?_
 refine sy (v := Ad (bs g) (0)) (y_nilCheck rfl) ?_
 refine sy (v := Ad (bs g) (0 + 0)) (y_fld Try.underlying71 rfl rfl sz36 (by decide) rfl) ?_
 refine sy (v := s1) (y_load sc36 rfl (H3.oldCell hR.blk (by simp) rfl)) ?_
 refine sy (v := I ((xs.length : Nat) : Int)) (y_lenR Try.underlying36 (hR.r1.st H3) rfl) ?_
 refine sy (v := .bool (decide (i < xs.length))) (n_lss (a := i) (b := xs.length) rfl rfl) ?_
 refine c_nil ?_
 refine n_then ?_
 refine c_if rfl (fun hc4 => ?_) (fun hc4 => ?_)
 ·
  refine wp_skip ?_
  refine n_then ?_
  refine c_seq ?_
  refine wp_block ?_
  refine c_seq ?_
  refine c_reg ?_
  refine sy (v := I ((i : Nat) : Int)) (y_move s3_3) ?_
  refine sy (v := I ((i % 250 : Nat) : Int)) (n_rem (a := i) (b := 250) rfl rfl (by omega)) ?_
  refine sy (v := I ((1 + (i % 250) : Nat) : Int)) (n_add (a := 1) (b := i % 250) rfl rfl (by omega)) ?_
  refine sy (v := B8 (b8 ((1 + (i % 250) : Nat)))) (y_conv_I_8 Try.underlying3 Try.underlying5 rfl) ?_
  refine sy (v := B8 (b8 ((1 + (i % 250) : Nat)))) (y_assign rfl) ?_
  refine c_nil ?_
  refine n_then ?_
  refine c_seq ?_
  obtain ⟨n, m, hn, hm, hx, hu⟩ := hR.row i (by omega)
  refine c_reg ?_
  refine sy (v := Ad (bs g) (0)) (y_move s0_3) ?_
  refine sy (v := Ad (bs g) (0)) (y_nilCheck rfl) ?_
  refine sy (v := Ad (bs g) (0 + 0)) (y_fld Try.underlying71 rfl rfl sz36 (by decide) rfl) ?_
  refine sy (v := s1) (y_load sc36 rfl (H3.oldCell hR.blk (by simp) rfl)) ?_
  refine sy (v := I ((i : Nat) : Int)) (y_move s3_3) ?_
  refine sy (v := Ad (sp (s1)) (i * 1)) (y_ixR (m := i) Try.underlying36 sz23 (hR.r1.st H3) (by decide) rfl rfl rfl (by omega)) ?_
  refine sy (v := xs.getD i undef) (y_load sc23 rfl ((hR.r1.st H3).cell _ _ (by rw [Nat.mul_one]; exact getD_get (by omega)))) ?_
  refine sy (v := B8 (b8 ((1 + (i % 250) : Nat)))) (y_move rfl) ?_
  refine st (ow_call fn105 rfl (full_c (xs.getD i undef) (List.replicate n (bc i)) (bc i) _ (by rw [List.length_replicate]; exact (hx.st H3)) (by rw [List.length_replicate]; omega) (fun j hj => rp_get (by rwa [List.length_replicate] at hj))) ⟨rfl, rfl, trivial⟩) ?_
  rintro _ w5 ⟨rfl, hB6⟩
  have H7 : St w _ [] w5 := H3.call hB6
  refine sy (v := .bool (false)) (y_not (p := true) rfl) ?_
  refine sy (v := .bool (false)) (y_move rfl) ?_
  refine gsy (v := Ad (bs g) (0)) (gv_of (t := 32) rfl rfl rfl) (rfl) (y_move s0_3) ?_
  refine gsy (v := Ad (bs g) (0)) (gv_of (t := 32) rfl rfl rfl) (rfl) (y_nilCheck rfl) ?_
  refine gsy (v := Ad (bs g) (0 + 1)) (gv_of (t := 32) rfl rfl rfl) (rfl) (y_fld Try.underlying71 rfl rfl sz36 (by decide) rfl) ?_
  refine gsy (v := s2) (gv_of (t := 32) rfl rfl rfl) (rfl) (y_load sc36 rfl (H7.oldCell hR.blk (by simp) rfl)) ?_
  refine gsy (v := I ((i : Nat) : Int)) (gv_of (t := 32) rfl rfl rfl) (rfl) (y_move s3_3) ?_
  refine gsy (v := Ad (sp (s2)) (i * 1)) (gv_of (t := 32) rfl rfl rfl) (rfl) (y_ixR (m := i) Try.underlying36 sz23 (hR.r2.st H7) (by decide) rfl rfl rfl (by omega)) ?_
  refine gsy (v := us.getD i undef) (gv_of (t := 32) rfl rfl rfl) (rfl) (y_load sc23 rfl ((hR.r2.st H7).cell _ _ (by rw [Nat.mul_one]; exact getD_get (by omega)))) ?_
  refine gsy (v := B8 (b8 ((1 + (i % 250) : Nat)))) (gv_of (t := 32) rfl rfl rfl) (rfl) (y_move rfl) ?_
  refine gst (gv_of (t := 32) rfl rfl rfl) (rfl) (ow_call fn105 rfl (full_c (us.getD i undef) (List.replicate m (bc i)) (bc i) _ (by rw [List.length_replicate]; exact (hu.st H7)) (by rw [List.length_replicate]; omega) (fun j hj => rp_get (by rwa [List.length_replicate] at hj))) ⟨rfl, rfl, trivial⟩) ?_
  rintro _ w8 ⟨rfl, hB9⟩
  have H10 : St w _ [] w8 := H7.call hB9
  refine gsy (v := .bool (false)) (gv_of (t := 32) rfl rfl rfl) (rfl) (y_not (p := true) rfl) ?_
  refine sy (v := .bool (false)) (y_pickF rfl (rfl) rfl) ?_
  refine c_nil ?_
  refine n_then ?_
  refine c_f rfl rfl ?_
  refine wp_skip ?_
  refine n_block (n_then ?_)
  refine c_reg ?_
  refine sy (v := I ((i : Nat) : Int)) (y_move s3_3) ?_
  refine sy (v := I ((i + 1 : Nat) : Int)) (n_add (a := i) (b := 1) rfl rfl (by omega)) ?_
  refine sy (v := I ((i + 1 : Nat) : Int)) (y_assign rfl) ?_
  refine c_nil ?_
  exact lp_next (i + 1) ⟨s0_3, rfl, (by omega), H10⟩ (by show _ < _; omega)
 ·
  refine wp_exit ?_
  refine x_then (x_then (x_hit (n_then ?_)))
  refine c_seq ?_
  refine c_reg ?_
  refine sy (v := .bool (true)) (y_assign (v := .bool (true)) rfl) ?_
  refine c_nil ?_
  refine n_then ?_
  refine wp_ret ?_
  refine e_r1 Try.results52 (rv_t rfl) ?_
  exact ⟨_, rfl, rfl, H3.below⟩

set_option maxHeartbeats 2000000 in
set_option maxRecDepth 20000 in
theorem add_c (g tot : Nat) (xs us : List Value) (EB Ev : Part) (v0 : Value) (l : List UInt8) (w : World) (hB : BookA g tot xs us EB) (hO : OS 5 1 v0 l.length (l.map B8) Ev) (hd : ∀ p ∈ EB, ∀ q ∈ Ev, p.1 ≠ q.1) (hown : ∀ p ∈ (EB ++ Ev : Part), w.heap[p.1]? = some p.2) (hx : xs.length < 20000) (ht : tot + l.length ≤ 549755813888) :
    Calls Try.prog 51 (([Ad (bs g) (0), v0] : List Value).toArray) w (fun e w' => ∃ v, e = .returned v ∧ v = .tuple #[] ∧ ∃ (tz : Nat) (xz : List Value) (uz : List Value) (EB' : Part), BookA g tz xz uz EB' ∧ xz.length ≤ xs.length + 1 ∧ tz ≤ tot + l.length ∧ St w ((EB ++ Ev).map (·.1)) [EB'] w') := by
 obtain ⟨s1, s2, E1, E2, F, rfl, ho1, ho2, hP, hd1, hd2, hd3⟩ := hB
 have hxu := hP.len
 refine calls_mk Try.func51 rfl 96 Try.ntmps51 rfl ?_
 have H0 : St w ((((([(g, Rw 71 [s1, s2, I ((tot : Nat) : Int), .bool false])] ++ E1) ++ E2) ++ F) ++ Ev).map (·.1)) [E1, [(g, Rw 71 ([s1, s2, I ((tot : Nat) : Int), .bool (false)]))], E2, F, Ev] w := ((((((((St.initE hown).split hd).foc 1 rfl rfl).split hd3).foc 1 rfl rfl).split hd2).foc 1 rfl rfl).split hd1)
 refine c_seq ?_
 refine c_reg ?_
 refine sy (v := Ad (bs g) (0)) (y_move rfl) ?_
 refine sy (v := Ad (bs g) (0)) (y_nilCheck rfl) ?_
 refine sy (v := Ad (bs g) (0 + 2)) (y_fld Try.underlying71 rfl rfl sz3 (by decide) rfl) ?_
 refine sy (v := I ((tot : Nat) : Int)) (y_load sc3 rfl (H0.cell 1 rfl rfl)) ?_
 refine sy (v := v0) (y_move rfl) ?_
 refine sy (v := I ((l.length : Nat) : Int)) (y_lenR Try.underlying23 (hO.rd H0 4 rfl) rfl) ?_
 refine sy (v := I ((tot + l.length : Nat) : Int)) (n_add (a := tot) (b := l.length) rfl rfl (by omega)) ?_
 refine sy (v := Ad (bs g) (0)) (y_nilCheck rfl) ?_
 refine sy (v := Ad (bs g) (0 + 2)) (y_fld Try.underlying71 rfl rfl sz3 (by decide) rfl) ?_
 have H1 : St w _ [_, _, _, _, _] w := H0.foc 1 rfl rfl
 refine s0 (ow_store (j := 2) H1 sz3 rfl rfl rfl rfl (by simp)) ?_
 rintro _ w2 H3'
 have H3 : St w _ [[(g, Rw 71 ([s1, s2, I ((tot + l.length : Nat) : Int), .bool (false)]))], _, _, _, _] w2 := H3'
 refine c_nil ?_
 refine n_then ?_
 refine c_seq ?_
 refine c_seq ?_
 refine c_reg ?_
 refine sy (v := Ad (bs g) (0)) (y_move rfl) ?_
 refine sy (v := Ad (bs g) (0)) (y_nilCheck rfl) ?_
 refine sy (v := Ad (bs g) (0 + 0)) (y_fld Try.underlying71 rfl rfl sz36 (by decide) rfl) ?_
 refine sy (v := s1) (y_load sc36 rfl (H3.cell 0 rfl rfl)) ?_
 refine sy (v := I ((xs.length : Nat) : Int)) (y_lenR Try.underlying36 (ho1.rd H3 1 rfl) rfl) ?_
 refine sy (v := .bool (decide (20000 ≤ xs.length))) (n_geq (a := xs.length) (b := 20000) rfl rfl) ?_
 refine sy (v := .bool (decide (20000 ≤ xs.length))) (y_move rfl) ?_
 have hq4 : ¬ (20000 ≤ xs.length) := (by omega)
 refine gsy (v := Ad (bs g) (0)) (gv_of (t := 24) rfl rfl rfl) (decide_eq_false hq4) (y_move rfl) ?_
 refine gsy (v := Ad (bs g) (0)) (gv_of (t := 24) rfl rfl rfl) (decide_eq_false hq4) (y_nilCheck rfl) ?_
 refine gsy (v := Ad (bs g) (0 + 2)) (gv_of (t := 24) rfl rfl rfl) (decide_eq_false hq4) (y_fld Try.underlying71 rfl rfl sz3 (by decide) rfl) ?_
 refine gsy (v := I ((tot + l.length : Nat) : Int)) (gv_of (t := 24) rfl rfl rfl) (decide_eq_false hq4) (y_load sc3 rfl (H3.cell 0 rfl rfl)) ?_
 refine gsy (v := .bool (decide (16777216 ≤ (tot + l.length)))) (gv_of (t := 24) rfl rfl rfl) (decide_eq_false hq4) (n_geq (a := tot + l.length) (b := 16777216) rfl rfl) ?_
 refine sy (v := .bool (decide (16777216 ≤ (tot + l.length)))) (y_pickF rfl (decide_eq_false hq4) rfl) ?_
 refine c_nil ?_
 refine n_then ?_
 refine c_cut (n := 96) (fun f5 w6 => ∃ (xz : List Value), ∃ (uz : List Value), ∃ (s1z : Value), ∃ (s2z : Value), ∃ (tz : Nat), ∃ (E1z : Part), ∃ (E2z : Part), ∃ (Fz : Part), f5 0 = Ad (bs g) (0) ∧ f5 1 = v0 ∧ OS 23 1 s1z xz.length xz E1z ∧ OS 23 1 s2z uz.length uz E2z ∧ PairsP 0 xz uz Fz ∧ xz.length ≤ xs.length ∧ tz ≤ tot + l.length ∧ St w ((((([(g, Rw 71 [s1, s2, I ((tot : Nat) : Int), .bool false])] ++ E1) ++ E2) ++ F) ++ Ev).map (·.1)) [E1z, [(g, Rw 71 ([s1z, s2z, I ((tz : Nat) : Int), .bool (false)]))], E2z, Fz, Ev] w6) ?_ ?_
 ·
  refine c_if rfl (fun hc7 => ?_) (fun hc7 => ?_)
  ·
   refine c_seq ?_
   refine c_reg ?_
   refine sy (v := Ad (bs g) (0)) (y_move rfl) ?_
   have hR10 : BookR w2 g (tot + l.length) s1 s2 xs us := ⟨H3.get 0 rfl, ho1.rd H3 1 rfl, ho2.rd H3 2 rfl, hxu, fun i hi => by
    have h := hP.rds (H3.foc 3 rfl rfl) i hi
    rwa [Nat.zero_add] at h⟩
   refine st (ow_call fn52 rfl (stays_bc g (tot + l.length) s1 s2 xs us _ hR10 (by omega)) ⟨rfl, trivial⟩) ?_
   rintro _ w8 ⟨rfl, hB9⟩
   have H11 : St w _ [_, _, _, _, _] w8 := H3.call hB9
   refine sy (v := .bool (true)) (y_assign rfl) ?_
   refine c_nil ?_
   refine n_then ?_
   refine c_seq ?_
   refine c_reg ?_
   refine sy (v := Ad (bs g) (0)) (y_move rfl) ?_
   refine sy (v := .bool (true)) (y_move rfl) ?_
   refine sy (v := .bool (false)) (y_not (p := true) rfl) ?_
   refine sy (v := Ad (bs g) (0)) (y_nilCheck rfl) ?_
   refine sy (v := Ad (bs g) (0 + 3)) (y_fld Try.underlying71 rfl rfl sz4 (by decide) rfl) ?_
   refine s0 (ow_store (j := 3) H11 sz4 rfl rfl rfl rfl (by simp)) ?_
   rintro _ w12 H13'
   have H13 : St w _ [[(g, Rw 71 ([s1, s2, I ((tot + l.length : Nat) : Int), .bool (false)]))], _, _, _, _] w12 := H13'
   refine c_nil ?_
   refine n_then ?_
   refine c_seq ?_
   refine c_reg ?_
   refine sy (v := Ad (bs g) (0)) (y_move rfl) ?_
   refine sy (v := Ad (bs g) (0)) (y_nilCheck rfl) ?_
   refine sy (v := Ad (bs g) (0 + 0)) (y_fld Try.underlying71 rfl rfl sz36 (by decide) rfl) ?_
   refine s0 (ow_store (j := 0) H13 sz36 rfl rfl rfl rfl (by simp)) ?_
   rintro _ w14 H15'
   have H15 : St w _ [[(g, Rw 71 ([.slice none 0 0, s2, I ((tot + l.length : Nat) : Int), .bool (false)]))], _, _, _, _] w14 := H15'
   refine c_nil ?_
   refine n_then ?_
   refine c_seq ?_
   refine c_reg ?_
   refine sy (v := Ad (bs g) (0)) (y_move rfl) ?_
   refine sy (v := Ad (bs g) (0)) (y_nilCheck rfl) ?_
   refine sy (v := Ad (bs g) (0 + 1)) (y_fld Try.underlying71 rfl rfl sz36 (by decide) rfl) ?_
   refine s0 (ow_store (j := 1) H15 sz36 rfl rfl rfl rfl (by simp)) ?_
   rintro _ w16 H17'
   have H17 : St w _ [[(g, Rw 71 ([.slice none 0 0, .slice none 0 0, I ((tot + l.length : Nat) : Int), .bool (false)]))], _, _, _, _] w16 := H17'
   refine c_nil ?_
   refine n_then ?_
   refine c_reg ?_
   refine sy (v := Ad (bs g) (0)) (y_move rfl) ?_
   refine sy (v := v0) (y_move rfl) ?_
   refine sy (v := I ((l.length : Nat) : Int)) (y_lenR Try.underlying23 (hO.rd H17 4 rfl) rfl) ?_
   refine sy (v := Ad (bs g) (0)) (y_nilCheck rfl) ?_
   refine sy (v := Ad (bs g) (0 + 2)) (y_fld Try.underlying71 rfl rfl sz3 (by decide) rfl) ?_
   refine s0 (ow_store (j := 2) H17 sz3 rfl rfl rfl rfl (by simp)) ?_
   rintro _ w18 H19'
   have H19 : St w _ [[(g, Rw 71 ([.slice none 0 0, .slice none 0 0, I ((l.length : Nat) : Int), .bool (false)]))], _, _, _, _] w18 := H19'
   refine c_nil ?_
   have H20 : St w _ [_, _, _, _, _, _] w18 := H19.nilp
   have H21 : St w _ [_, _, _, _, _, _, _] w18 := H20.nilp
   have H22 : St w _ [_, _, _, _, _, _, _, _] w18 := H21.nilp
   have H23 : St w _ [_, _, _, _, _, _, _, _] w18 := H22.foc 7 rfl rfl
   have H24 : St w _ [_, _, _, _, _, _, _, _] w18 := H23.foc 1 rfl rfl
   have H25 : St w _ [_, _, _, _, _, _, _, _] w18 := H24.foc 2 rfl rfl
   have H26 : St w _ [_, _, _, _, _, _, _, _] w18 := H25.foc 4 rfl rfl
   have H27 : St w _ [_, _, _, _, _, _, _, _] w18 := H26.foc 4 rfl rfl
   have H28 : St w _ [_, _, _, _, _] w18 := H27.take 5 rfl
   exact qj_n ⟨[], [], .slice none 0 0, .slice none 0 0, l.length, [], [], [], rfl, rfl, (OS.nil 23 1), (OS.nil 23 1), rfl, (Nat.zero_le _), (by omega), H28⟩
  ·
   refine wp_skip ?_
   have H29 : St w _ [_, _, _, _, _] w2 := H3.foc 4 rfl rfl
   have H30 : St w _ [_, _, _, _, _] w2 := H29.foc 4 rfl rfl
   have H31 : St w _ [_, _, _, _, _] w2 := H30.foc 4 rfl rfl
   have H32 : St w _ [_, _, _, _, _] w2 := H31.foc 3 rfl rfl
   have H33 : St w _ [_, _, _, _, _] w2 := H32.foc 4 rfl rfl
   exact qj_n ⟨xs, us, s1, s2, (tot + l.length), E1, E2, F, rfl, rfl, ho1, ho2, hP, (Nat.le_refl _), (Nat.le_refl _), H33⟩
 ·
  rintro f5 w6 ⟨xz, uz, s1z, s2z, tz, E1z, E2z, Fz, s0_34, s1_34, hz1, hz2, hzP, hzl, hzt, H34⟩
  have hzu := hzP.len
  refine n_then ?_
  refine c_seq ?_
  refine c_reg ?_
  refine sy (v := Ad (bs g) (0)) (y_move s0_34) ?_
  refine sy (v := Ad (bs g) (0)) (y_nilCheck rfl) ?_
  refine sy (v := Ad (bs g) (0 + 0)) (y_fld Try.underlying71 rfl rfl sz36 (by decide) rfl) ?_
  refine sy (v := s1z) (y_load sc36 rfl (H34.cell 1 rfl rfl)) ?_
  refine sy (v := I ((xz.length : Nat) : Int)) (y_lenR Try.underlying36 (hz1.rd H34 0 rfl) rfl) ?_
  refine sy (v := I ((xz.length % 250 : Nat) : Int)) (n_rem (a := xz.length) (b := 250) rfl rfl (by omega)) ?_
  refine sy (v := I ((1 + (xz.length % 250) : Nat) : Int)) (n_add (a := 1) (b := xz.length % 250) rfl rfl (by omega)) ?_
  refine sy (v := B8 (b8 ((1 + (xz.length % 250) : Nat)))) (y_conv_I_8 Try.underlying3 Try.underlying5 rfl) ?_
  refine sy (v := B8 (b8 ((1 + (xz.length % 250) : Nat)))) (y_assign rfl) ?_
  refine c_nil ?_
  refine n_then ?_
  refine c_seq ?_
  refine c_seq ?_
  refine c_reg ?_
  refine sy (v := I ((0 : Nat) : Int)) (y_assign (v := I ((0 : Nat) : Int)) rfl) ?_
  refine c_nil ?_
  refine n_then ?_
  refine wp_block ?_
  refine c_loop (fun (i : Nat) f35 w36 => ∃ (EK : Part), f35 0 = Ad (bs g) (0) ∧ f35 1 = v0 ∧ f35 5 = B8 (b8 ((1 + (xz.length % 250) : Nat))) ∧ f35 6 = I ((i : Nat) : Int) ∧ i ≤ l.length ∧ OS 5 1 v0 l.length ((fk (bc xz.length) i l).map B8) EK ∧ St w ((((([(g, Rw 71 [s1, s2, I ((tot : Nat) : Int), .bool false])] ++ E1) ++ E2) ++ F) ++ Ev).map (·.1)) [E1z, [(g, Rw 71 ([s1z, s2z, I ((tz : Nat) : Int), .bool (false)]))], E2z, Fz, EK] w36) (fun i => l.length - i) 0 ⟨Ev, s0_34, s1_34, rfl, rfl, (Nat.zero_le _), hO, H34⟩ ?_
  rintro i f35 w36 ⟨EK, s0_37, s1_37, s5_37, s6_37, hi, hoK, H37⟩
  refine c_seq ?_
  refine c_seq ?_
  refine c_reg ?_
  refine sy (v := I ((i : Nat) : Int)) (y_move s6_37) ?_
  refine sy (v := v0) (y_move s1_37) ?_
  refine sy (v := I ((l.length : Nat) : Int)) (y_lenR Try.underlying23 (hoK.rd H37 4 rfl) rfl) ?_
  refine sy (v := .bool (decide (i < l.length))) (n_lss (a := i) (b := l.length) rfl rfl) ?_
  refine c_nil ?_
  refine n_then ?_
  refine c_if rfl (fun hc38 => ?_) (fun hc38 => ?_)
  ·
   refine wp_skip ?_
   refine n_then ?_
   refine c_seq ?_
   refine wp_block ?_
   refine c_reg ?_
   refine sy (v := v0) (y_move s1_37) ?_
   refine sy (v := I ((i : Nat) : Int)) (y_move s6_37) ?_
   refine sy (v := B8 (b8 ((1 + (xz.length % 250) : Nat)))) (y_move s5_37) ?_
   refine sy (v := Ad (sp (v0)) (i * 1)) (y_ixR (m := i) Try.underlying23 sz5 (hoK.rd H37 4 rfl) (by decide) rfl rfl rfl (by omega)) ?_
   have H39 : St w _ [_, _, _, _, _] w36 := H37.foc 4 rfl rfl
   refine s0 (ow_storeOS (i := i) hoK H39 sz5 rfl rfl rfl (by omega) (by omega)) ?_
   rintro _ w41 ⟨E40, ho43, H42⟩
   refine c_nil ?_
   refine n_block (n_then ?_)
   refine c_reg ?_
   refine sy (v := I ((i : Nat) : Int)) (y_move s6_37) ?_
   refine sy (v := I ((i + 1 : Nat) : Int)) (n_add (a := i) (b := 1) rfl rfl (by omega)) ?_
   refine sy (v := I ((i + 1 : Nat) : Int)) (y_assign rfl) ?_
   refine c_nil ?_
   have H44 : St w _ [_, _, _, _, _] w41 := H42.foc 4 rfl rfl
   have H45 : St w _ [_, _, _, _, _] w41 := H44.foc 4 rfl rfl
   have H46 : St w _ [_, _, _, _, _] w41 := H45.foc 4 rfl rfl
   have H47 : St w _ [_, _, _, _, _] w41 := H46.foc 4 rfl rfl
   exact lp_next (i + 1) ⟨E40, s0_37, s1_37, s5_37, rfl, (by omega), (fk_step (c := bc xz.length) (k := i) (l := l) (by omega) ▸ ho43), H47⟩ (by show _ < _; omega)
  ·
   obtain rfl : i = l.length := by omega
   rw [fk_end] at hoK
   refine wp_exit ?_
   refine x_then (x_then (x_hit (n_then ?_)))
   refine c_seq ?_
   refine c_reg ?_
   refine sy (v := v0) (y_move s1_37) ?_
   refine sy (v := v0) (y_assign rfl) ?_
   refine c_nil ?_
   refine n_then ?_
   refine c_seq ?_
   refine c_seq ?_
   refine c_reg ?_
   refine sy (v := I ((0 : Nat) : Int)) (y_assign (v := I ((0 : Nat) : Int)) rfl) ?_
   refine c_nil ?_
   refine n_then ?_
   refine wp_block ?_
   refine c_loop (fun (j : Nat) f48 w49 => ∃ (uv : Value), ∃ (EZ : Part), f48 0 = Ad (bs g) (0) ∧ f48 1 = v0 ∧ f48 5 = B8 (b8 ((1 + (xz.length % 250) : Nat))) ∧ f48 7 = uv ∧ f48 8 = I ((j : Nat) : Int) ∧ j ≤ 60 ∧ TS 5 1 v0 l.length ((List.replicate l.length (bc xz.length)).map B8) uv (l.length + j) ((List.replicate (l.length + j) (bc xz.length)).map B8) EZ ∧ St w ((((([(g, Rw 71 [s1, s2, I ((tot : Nat) : Int), .bool false])] ++ E1) ++ E2) ++ F) ++ Ev).map (·.1)) [E1z, [(g, Rw 71 ([s1z, s2z, I ((tz : Nat) : Int), .bool (false)]))], E2z, Fz, EZ] w49) (fun j => 60 - j) 0 ⟨_, _, s0_37, s1_37, s5_37, rfl, rfl, (by omega), (TS.refl hoK), H37⟩ ?_
   rintro j f48 w49 ⟨uv, EZ, s0_50, s1_50, s5_50, s7_50, s8_50, hj, hts, H50⟩
   refine c_seq ?_
   refine c_seq ?_
   refine c_reg ?_
   refine sy (v := I ((j : Nat) : Int)) (y_move s8_50) ?_
   refine sy (v := .bool (decide (j < 60))) (n_lss (a := j) (b := 60) rfl rfl) ?_
   refine c_nil ?_
   refine n_then ?_
   refine c_if rfl (fun hc51 => ?_) (fun hc51 => ?_)
   ·
    refine wp_skip ?_
    refine n_then ?_
    refine c_seq ?_
    refine wp_block ?_
    refine c_reg ?_
    refine sy (v := uv) (y_move s7_50) ?_
    refine sy (v := B8 (b8 ((1 + (xz.length % 250) : Nat)))) (y_move s5_50) ?_
    refine st (ow_buildSlice (pv := [(0, B8 (b8 ((1 + (xz.length % 250) : Nat))))]) (us := [B8 (b8 ((1 + (xz.length % 250) : Nat)))]) Try.underlying23 sz5 zr5 H50 ⟨⟨rfl, rfl⟩, trivial⟩ (by decide) (fill1 rfl)) ?_
    rintro _ w53 ⟨g52, rfl, H54⟩
    have H55 : St w _ [_, _, _, _, _, _] w53 := H54.foc 5 rfl rfl
    refine st (ow_append_ts Try.underlying23 sz5 zr5 bt5 rfl hts H55 rfl rfl ((rd_lit (k := 1) (us := [B8 (b8 ((1 + (xz.length % 250) : Nat)))]) H54 0 rfl rfl (by simp [maxLen])).src Try.underlying23 (by simp [Value.oneCell'])) (by omega) (by omega)) ?_
    rintro v57 w58 ⟨E56, ho60, H59⟩
    refine sy (v := v57) (y_assign rfl) ?_
    refine c_nil ?_
    refine n_block (n_then ?_)
    refine c_reg ?_
    refine sy (v := I ((j : Nat) : Int)) (y_move s8_50) ?_
    refine sy (v := I ((j + 1 : Nat) : Int)) (n_add (a := j) (b := 1) rfl rfl (by omega)) ?_
    refine sy (v := I ((j + 1 : Nat) : Int)) (y_assign rfl) ?_
    refine c_nil ?_
    have H61 : St w _ [_, _, _, _, _, _] w58 := H59.foc 5 rfl rfl
    have H62 : St w _ [_, _, _, _, _, _] w58 := H61.foc 5 rfl rfl
    have H63 : St w _ [_, _, _, _, _, _] w58 := H62.foc 5 rfl rfl
    have H64 : St w _ [_, _, _, _, _, _] w58 := H63.foc 5 rfl rfl
    have H65 : St w _ [_, _, _, _, _] w58 := H64.take 5 rfl
    exact lp_next (j + 1) ⟨v57, E56, s0_50, s1_50, s5_50, rfl, rfl, (by omega), (by rw [← Nat.add_assoc, ← rp_snoc]; exact ho60), H65⟩ (by show _ < _; omega)
   ·
    obtain rfl : j = 60 := by omega
    refine wp_exit ?_
    refine x_then (x_then (x_hit (n_then ?_)))
    refine c_seq ?_
    refine c_reg ?_
    refine sy (v := Ad (bs g) (0)) (y_move s0_50) ?_
    refine sy (v := Ad (bs g) (0)) (y_move s0_50) ?_
    refine sy (v := Ad (bs g) (0)) (y_nilCheck rfl) ?_
    refine sy (v := Ad (bs g) (0 + 0)) (y_fld Try.underlying71 rfl rfl sz36 (by decide) rfl) ?_
    refine sy (v := s1z) (y_load sc36 rfl (H50.cell 1 rfl rfl)) ?_
    refine sy (v := v0) (y_move s1_50) ?_
    refine st (ow_buildSlice (pv := [(0, v0)]) (us := [v0]) Try.underlying36 sz23 zr23 H50 ⟨⟨rfl, rfl⟩, trivial⟩ (by decide) (fill1 (hts.rdx H50 4 rfl).cells)) ?_
    rintro _ w67 ⟨g66, rfl, H68⟩
    have H69 : St w _ [_, _, _, _, _, _] w67 := H68.foc 1 rfl rfl
    refine st (ow_append Try.underlying36 sz23 zr23 bt23 rfl hz1 H69 rfl rfl ((rd_lit (k := 1) (us := [v0]) H68 0 rfl rfl (by simp [maxLen])).src Try.underlying36 (by intro u hu; simp only [List.mem_cons, List.not_mem_nil, or_false] at hu; subst hu; exact Rd.one (hts.rdx H68 5 rfl))) (by first | omega | (simp only [List.length_append, List.length_cons, List.length_nil, List.length_take, List.length_drop, hmac_length, sha_length, List.length_replicate]; omega)) (by first | omega | (simp only [List.length_append, List.length_cons, List.length_nil, List.length_take, List.length_drop, hmac_length, sha_length, List.length_replicate]; omega))) ?_
    rintro v71 w72 ⟨E70, ho74, H73⟩
    refine sy (v := Ad (bs g) (0)) (y_nilCheck rfl) ?_
    refine sy (v := Ad (bs g) (0 + 0)) (y_fld Try.underlying71 rfl rfl sz36 (by decide) rfl) ?_
    have H75 : St w _ [_, _, _, _, _, _] w72 := H73.foc 2 rfl rfl
    refine s0 (ow_store (j := 0) H75 sz36 rfl rfl (Rd.one (ho74.rd H75 1 rfl)) rfl (by simp)) ?_
    rintro _ w76 H77'
    have H77 : St w _ [[(g, Rw 71 ([v71, s2z, I ((tz : Nat) : Int), .bool (false)]))], _, _, _, _, _] w76 := H77'
    refine c_nil ?_
    refine n_then ?_
    refine c_reg ?_
    refine sy (v := Ad (bs g) (0)) (y_move s0_50) ?_
    refine sy (v := Ad (bs g) (0)) (y_move s0_50) ?_
    refine sy (v := Ad (bs g) (0)) (y_nilCheck rfl) ?_
    refine sy (v := Ad (bs g) (0 + 1)) (y_fld Try.underlying71 rfl rfl sz36 (by decide) rfl) ?_
    refine sy (v := s2z) (y_load sc36 rfl (H77.cell 0 rfl rfl)) ?_
    refine sy (v := uv) (y_move s7_50) ?_
    refine st (ow_buildSlice (pv := [(0, uv)]) (us := [uv]) Try.underlying36 sz23 zr23 H77 ⟨⟨rfl, rfl⟩, trivial⟩ (by decide) (fill1 (hts.rdu H77 5 rfl).cells)) ?_
    rintro _ w79 ⟨g78, rfl, H80⟩
    have H81 : St w _ [_, _, _, _, _, _, _] w79 := H80.foc 4 rfl rfl
    refine st (ow_append Try.underlying36 sz23 zr23 bt23 rfl hz2 H81 rfl rfl ((rd_lit (k := 1) (us := [uv]) H80 0 rfl rfl (by simp [maxLen])).src Try.underlying36 (by intro u hu; simp only [List.mem_cons, List.not_mem_nil, or_false] at hu; subst hu; exact Rd.one (hts.rdu H80 6 rfl))) (by first | omega | (simp only [List.length_append, List.length_cons, List.length_nil, List.length_take, List.length_drop, hmac_length, sha_length, List.length_replicate]; omega)) (by first | omega | (simp only [List.length_append, List.length_cons, List.length_nil, List.length_take, List.length_drop, hmac_length, sha_length, List.length_replicate]; omega))) ?_
    rintro v83 w84 ⟨E82, ho86, H85⟩
    refine sy (v := Ad (bs g) (0)) (y_nilCheck rfl) ?_
    refine sy (v := Ad (bs g) (0 + 1)) (y_fld Try.underlying71 rfl rfl sz36 (by decide) rfl) ?_
    have H87 : St w _ [_, _, _, _, _, _, _] w84 := H85.foc 2 rfl rfl
    refine s0 (ow_store (j := 1) H87 sz36 rfl rfl (Rd.one (ho86.rd H87 1 rfl)) rfl (by simp)) ?_
    rintro _ w88 H89'
    have H89 : St w _ [[(g, Rw 71 ([v71, v83, I ((tz : Nat) : Int), .bool (false)]))], _, _, _, _, _, _] w88 := H89'
    refine c_nil ?_
    refine e_end0 Try.results51 ?_
    have H90 : St w _ [_, _, _, _, _, _, _] w88 := H89.foc 3 rfl rfl
    have H91 : St w _ [_, _, _, _, _, _, _] w88 := H90.foc 2 rfl rfl
    have H92 : St w _ [_, _, _, _, _, _, _] w88 := H91.foc 5 rfl rfl
    have H93 : St w _ [_, _, _, _, _, _, _] w88 := H92.foc 6 rfl rfl
    have H94 : St w _ [_, _, _, _, _] w88 := H93.take 5 rfl
    obtain ⟨H95, -⟩ := H94.join
    have hP2 : PairsP 0 (xz ++ [v0]) (uz ++ [uv]) (Fz ++ EZ) := PairsP.snoc hzP (by rw [Nat.zero_add]; exact hts) (by omega) (by omega)
    obtain ⟨hb1, hb2⟩ := booka_mk (g := g) (tot := tz) (xs := xz ++ [v0]) (us := uz ++ [uv]) (by rw [List.length_append]; exact ho74) (by rw [List.length_append]; exact ho86) hP2 H95
    exact ⟨_, rfl, rfl, _, _, _, _, hb1, by rw [List.length_append, List.length_singleton]; omega, hzt, hb2⟩

end Go.Proofs.Ytdcmbcjkdhdohaa
