/- The references' Walk. -/
import Derived.Test.YtdcmbcjkdhdohaaRoots9
namespace Go.Proofs.Ytdcmbcjkdhdohaa
open Go Go.RowKit
set_option linter.unusedSimpArgs false
set_option linter.unusedVariables false
attribute [local irreducible] wpList wpP Code.wp

/-- The empty cell, or the first leaf's. -/
def ofC (c : Cl) (ls : List Lf) : Prop := c = c0 ∨ 0 < ls.length ∧ c = (ls.getD 0 lf0).cell
theorem ofC.cr {c : Cl} {ls : List Lf} {w : World} {v : Value} (h : ofC c ls) (hL : LsR [] w v ls) : CR [] w c := by
  rcases h with rfl | ⟨h0, rfl⟩
  · exact cr0
  · exact (hL.at h0).cell
def BkO (g : Nat) (rv : Value) (rows : List (List UInt8)) (EB : Part) : Prop := ∃ vs E F, EB = ([(g, Rw 120 [rv])] ++ E) ++ F ∧ OS 23 1 rv rows.length vs E ∧ RowsP vs rows F ∧
  (∀ p ∈ ([(g, Rw 120 [rv])] : Part), ∀ q ∈ E, p.1 ≠ q.1) ∧ (∀ p ∈ ([(g, Rw 120 [rv])] ++ E : Part), ∀ q ∈ F, p.1 ≠ q.1)
theorem BkP.op {g : Nat} {rows : List (List UInt8)} {EB : Part} (h : BkP g rows EB) : ∃ rv, BkO g rv rows EB := h
theorem BkO.bk {g : Nat} {rv : Value} {rows : List (List UInt8)} {EB : Part} (h : BkO g rv rows EB) : BkP g rows EB := ⟨rv, h⟩
theorem bko_new (g : Nat) : BkO g (.slice none 0 0) [] [(g, Rw 120 [.slice none 0 0])] := ⟨[], [], [], rfl, OS.nil 23 1, rfl, by simp, by simp⟩
theorem BkO.cell {w w0 : World} {X : List Nat} {L : List Part} {g : Nat} {rv : Value} {rows : List (List UInt8)} {EB : Part} (h : BkO g rv rows EB) (H : St w0 X L w) (i : Nat) (hi : L[i]? = some EB) : w.heap[g]? = some (Rw 120 [rv]) := by
  obtain ⟨vs, E, F, rfl, ho, hr, h1, h2⟩ := h
  exact (H.foc i hi rfl).subL.subL.own _ List.mem_cons_self (g, Rw 120 [rv]) (by simp)
/-- The rows of a witness that is taken. -/
def rowsW (n : Int) (ls : List Le) : List (List UInt8) := if n = 0 then [topB 0 []] else ls.flatMap (leafR n)
theorem leafs_len {n : Int} : ∀ {ls : List Lf} (j : Nat), (∀ f ∈ ls, f.path.length ≤ 1099511627776) → (((PE ls).take j).flatMap (leafR n)).length ≤ j * 1099511627778
  | [], j, h => by simp [PE]
  | f :: ls, 0, h => by simp
  | f :: ls, j + 1, h => by
    have h1 := leafs_len (n := n) (ls := ls) j (fun x hx => h x (List.mem_cons_of_mem _ hx))
    have h2 := leafR_len (n := n) (f := f.e)
    have h3 := h f List.mem_cons_self
    have h4 : f.e.path = f.path := rfl
    rw [h4] at h2
    show ((leafR n f.e) ++ ((PE ls).take j).flatMap (leafR n)).length ≤ _
    rw [List.length_append]; omega
theorem leafs_succ {n : Int} : ∀ {ls : List Lf} {j : Nat}, j < ls.length → ((PE ls).take j).flatMap (leafR n) ++ leafR n (ls.getD j lf0).e = ((PE ls).take (j + 1)).flatMap (leafR n)
  | [], _, h => absurd h (by simp)
  | f :: ls, 0, h => by simp [PE]
  | f :: ls, j + 1, h => by
    have h1 := leafs_succ (n := n) (ls := ls) (j := j) (by simpa using h)
    show (leafR n f.e ++ ((PE ls).take j).flatMap (leafR n)) ++ leafR n (ls.getD j lf0).e = leafR n f.e ++ ((PE ls).take (j + 1)).flatMap (leafR n)
    rw [List.append_assoc, h1]
theorem says_vals {kind : Int} {key : List UInt8} {n : Int} {ls : List Lf} : saysA kind key n (PE ls) = -1 ∨ saysA kind key n (PE ls) = 0 ∨ saysA kind key n (PE ls) = 1 := by
  unfold saysA
  repeat' split
  all_goals simp
section
variable {P : Program} {n : Nat} {f : Nat → Value} {ty t t2 e : TypeId} {w : World} {x y : Operand}
theorem y_neqPP {p q : Prop} [Decidable p] [Decidable q] (hx : ev n f x = .bool (decide p)) (hy : ev n f y = .bool (decide q)) (hu : P.underlying t = some .bool) : Y P n f (.binOp .neq t x y t2) ty w (.bool (decide (¬ (p ↔ q)))) w := by
  have h := y_neqB (P := P) (t := t) (t2 := t2) (ty := ty) (w := w) hx hy hu
  have e : (decide p != decide q) = decide (¬ (p ↔ q)) := by
    by_cases hp : p <;> by_cases hq : q <;> simp [hp, hq]
  rwa [e] at h
end
section
variable {g : Nat} {rows : List (List UInt8)} {EB : Part} {root : List UInt8} {n fn : Int} {c : Cl} {pv : Value} {path : List (List UInt8)} {w : World}
theorem right_yes (hB : BkP g rows EB) (hown : ∀ p ∈ EB, w.heap[p.1]? = some p.2) (hr : root.length = 32) (hn : n ≤ 9223372036854775807) (hC : CR (EB.map (·.1)) w c) (hP : Rd (EB.map (·.1)) w 32 pv path.length (path.flatten.map B8)) (hhp : H32 path) (hrb : rows.length + path.length + 2 ≤ 4398046511104) (h : stands root n ⟨fn, c.c, path⟩) :
    Calls Try.prog 131 (([Ad (bs g) 0, .agg (root.map B8).toArray, I n, .agg ([I fn, I c.c.k, .string (bst c.c.key), c.v, pv] : List Value).toArray] : List Value).toArray) w (fun e w' => ∃ v, e = .returned v ∧ v = .bool true ∧ ∃ EB', BkP g (rows ++ leafR n ⟨fn, c.c, path⟩) EB' ∧ St w (EB.map (·.1)) [EB'] w') :=
  (right_c g rows EB root n fn c pv path w hB hown hr hn hC hP hhp hrb).mono fun e w' ⟨v, he, b, hv, hb, hE⟩ => ⟨v, he, by rw [hv, hb.2 h], hE⟩
theorem right_no (hB : BkP g rows EB) (hown : ∀ p ∈ EB, w.heap[p.1]? = some p.2) (hr : root.length = 32) (hn : n ≤ 9223372036854775807) (hC : CR (EB.map (·.1)) w c) (hP : Rd (EB.map (·.1)) w 32 pv path.length (path.flatten.map B8)) (hhp : H32 path) (hrb : rows.length + path.length + 2 ≤ 4398046511104) (h : ¬ stands root n ⟨fn, c.c, path⟩) :
    Calls Try.prog 131 (([Ad (bs g) 0, .agg (root.map B8).toArray, I n, .agg ([I fn, I c.c.k, .string (bst c.c.key), c.v, pv] : List Value).toArray] : List Value).toArray) w (fun e w' => ∃ v, e = .returned v ∧ v = .bool false ∧ ∃ EB', BkP g (rows ++ leafR n ⟨fn, c.c, path⟩) EB' ∧ St w (EB.map (·.1)) [EB'] w') :=
  (right_c g rows EB root n fn c pv path w hB hown hr hn hC hP hhp hrb).mono fun e w' ⟨v, he, b, hv, hb, hE⟩ => ⟨v, he, by
    cases b with
    | false => exact hv
    | true => exact absurd (hb.1 rfl) h, hE⟩
end

attribute [local irreducible] leafH innerH topH rootH rootA sha

set_option maxHeartbeats 4000000 in
set_option maxRecDepth 20000 in
theorem walk_c (root : List UInt8) (kind : Int) (key : List UInt8) (n : Int) (lv : Value) (ls : List Lf) (w : World) (hr : root.length = 32) (hn : n ≤ 9223372036854775807) (hn2 : -9223372036854775808 ≤ n) (hL : LsR [] w lv ls) :
    Calls Try.prog 97 (([.agg (root.map B8).toArray, I (kind), .string (bst key), .agg ([I n, lv]).toArray] : List Value).toArray) w (fun e w' => ∃ v, e = .returned v ∧ ∃ (c' : Cl) (g : Nat) (rv : Value) (rows : List (List UInt8)) (EB : Part), v = .tuple #[.agg c'.cs.toArray, .bool (checkA root kind key n (PE ls)).2.isSome, I (((checkA root kind key n (PE ls)).1 : Nat) : Int), rv] ∧ c'.c = (checkA root kind key n (PE ls)).2.getD cz ∧ ofC c' ls ∧ BkO g rv rows EB ∧ ((checkA root kind key n (PE ls)).1 = 0 → rows = rowsW n (PE ls)) ∧ St w [] [EB] w') := by
 have hle := hL.le
 refine calls_mk Try.func97 rfl 113 Try.ntmps97 rfl ?_
 have H0 : St w [] [] w := St.refl w
 refine c_seq ?_
 refine c_reg ?_
 refine st (ow_box (l := (root).map B8) H0 rfl rfl) ?_
 rintro _ w2 ⟨g1, rfl, H3⟩
 refine st (ow_box (l := [I (n), lv]) H3 rfl rfl) ?_
 rintro _ w5 ⟨g4, rfl, H6⟩
 refine st (ow_alloc (l := [I ((0 : Nat) : Int), .string (.empty), .slice none 0 0]) H6 zr48 rfl) ?_
 rintro _ w8 ⟨g7, rfl, H9⟩
 refine sy (v := .bool (false)) (y_assign (v := .bool (false)) rfl) ?_
 refine sy (v := I ((0 : Nat) : Int)) (y_assign (v := I ((0 : Nat) : Int)) rfl) ?_
 refine sy (v := .slice none 0 0) (y_assign (v := .slice none 0 0) rfl) ?_
 refine c_nil ?_
 refine n_then ?_
 refine c_seq ?_
 refine c_reg ?_
 refine sy (v := .agg ([.slice none 0 0]).toArray) (y_build (parts := []) (pv := []) (us := [.slice none 0 0]) trivial (by kernel_rfl)) ?_
 refine st (ow_box (l := [.slice none 0 0]) H9 rfl rfl) ?_
 rintro _ w11 ⟨g10, rfl, H12⟩
 refine sy (v := Ad (bs g10) (0)) (y_assign rfl) ?_
 refine c_nil ?_
 refine n_then ?_
 refine c_seq ?_
 refine c_reg ?_
 refine sy (v := I (kind)) (y_move rfl) ?_
 refine st (ow_call fn83 rfl (kindMay_c (kind) _) ⟨rfl, trivial⟩) ?_
 rintro _ w13 ⟨rfl, hB14⟩
 have H15 : St w _ [_, _, _, _] w13 := H12.call hB14
 refine sy (v := .bool (decide (kMay kind))) (y_assign rfl) ?_
 refine c_nil ?_
 refine n_then ?_
 refine c_seq ?_
 refine c_seq ?_
 refine c_reg ?_
 refine sy (v := .bool (decide (kMay kind))) (y_move rfl) ?_
 refine sy (v := .bool (decide (¬ (kMay kind)))) (y_notP rfl) ?_
 refine c_nil ?_
 refine n_then ?_
 refine c_if rfl (fun hc16 => ?_) (fun hc16 => ?_)
 ·
  refine c_seq ?_
  refine c_reg ?_
  refine sy (v := .agg ([I ((0 : Nat) : Int), .string .empty, .slice none 0 0]).toArray) (y_build (parts := []) (pv := []) (us := [I ((0 : Nat) : Int), .string (.empty), .slice none 0 0]) trivial (by kernel_rfl)) ?_
  have H17 : St w _ [_, _, _, _] w13 := H15.foc 1 rfl rfl
  refine s0 (ow_storeW (us := [I ((0 : Nat) : Int), .string (.empty), .slice none 0 0]) H17 sz48 rfl rfl rfl (by simp [Value.oneCell']) (by simp [*])) ?_
  rintro _ w18 H19'
  have H19 : St w _ [[(g7, Rw 48 ([I ((0 : Nat) : Int), .string (.empty), .slice none 0 0]))], _, _, _] w18 := H19'
  refine sy (v := .bool (false)) (y_assign (v := .bool (false)) rfl) ?_
  refine sy (v := I ((40 : Nat) : Int)) (y_assign (v := I ((40 : Nat) : Int)) rfl) ?_
  refine sy (v := .slice none 0 0) (y_assign (v := .slice none 0 0) rfl) ?_
  refine c_nil ?_
  refine n_then ?_
  refine wp_ret ?_
  refine r_then ?_
  refine e_r4 Try.results97 (rv_b H19 (i := 0) rfl ag48 sz48 rfl rfl) (rv_t rfl) (rv_t rfl) (rv_t rfl) ?_
  have H20 : St w _ [_, _, _, _] w18 := H19.foc 1 rfl rfl
  have H21 : St w _ [_] w18 := H20.take 1 rfl
  have hck : checkA root kind key n (PE ls) = (40, none) := ck_kind (by assumption)
  rw [hck]
  exact ⟨_, rfl, c0, _, _, _, _, rfl, rfl, (.inl rfl), bko_new g10, fun h => absurd h (by simp), H21⟩
 ·
  refine wp_skip ?_
  refine n_then ?_
  refine c_seq ?_
  refine c_seq ?_
  refine c_reg ?_
  refine sy (v := Ad (bs g4) (0 + 0)) (y_fld Try.underlying41 rfl rfl sz3 (by decide) rfl) ?_
  refine sy (v := I (n)) (y_load sc3 rfl (H15.cell 2 rfl rfl)) ?_
  refine sy (v := .bool (decide (n < ((0 : Nat) : Int)))) (y_lss (i := n) (j := ((0 : Nat) : Int)) rfl rfl) ?_
  refine sy (v := .bool (decide (n < ((0 : Nat) : Int)))) (y_move rfl) ?_
  by_cases hp22 : n < ((0 : Nat) : Int)
  ·
   refine gno (gv_of (t := 27) rfl rfl rfl) (decide_eq_true hp22) ?_
   refine gno (gv_of (t := 27) rfl rfl rfl) (decide_eq_true hp22) ?_
   refine gno (gv_of (t := 27) rfl rfl rfl) (decide_eq_true hp22) ?_
   refine gno (gv_of (t := 27) rfl rfl rfl) (decide_eq_true hp22) ?_
   refine sy (v := .bool (true)) (y_pickT (v := .bool (true)) rfl (decide_eq_true hp22) rfl) ?_
   refine sy (v := .bool (true)) (y_move rfl) ?_
   refine gno (t := true) (b := false) (gv_of (t := 33) rfl rfl rfl) (rfl) ?_
   refine gno (t := true) (b := false) (gv_of (t := 33) rfl rfl rfl) (rfl) ?_
   refine gno (t := true) (b := false) (gv_of (t := 33) rfl rfl rfl) (rfl) ?_
   refine gno (t := true) (b := false) (gv_of (t := 33) rfl rfl rfl) (rfl) ?_
   refine gno (t := true) (b := false) (gv_of (t := 33) rfl rfl rfl) (rfl) ?_
   refine gno (t := true) (b := false) (gv_of (t := 33) rfl rfl rfl) (rfl) ?_
   refine gno (t := true) (b := false) (gv_of (t := 33) rfl rfl rfl) (rfl) ?_
   refine gno (t := true) (b := false) (gv_of (t := 33) rfl rfl rfl) (rfl) ?_
   refine sy (v := .bool (true)) (y_pickT (v := .bool (true)) rfl (rfl) rfl) ?_
   refine c_nil ?_
   refine n_then ?_
   refine c_t rfl rfl ?_
   refine c_seq ?_
   refine c_reg ?_
   refine sy (v := .agg ([I ((0 : Nat) : Int), .string .empty, .slice none 0 0]).toArray) (y_build (parts := []) (pv := []) (us := [I ((0 : Nat) : Int), .string (.empty), .slice none 0 0]) trivial (by kernel_rfl)) ?_
   have H23 : St w _ [_, _, _, _] w13 := H15.foc 1 rfl rfl
   refine s0 (ow_storeW (us := [I ((0 : Nat) : Int), .string (.empty), .slice none 0 0]) H23 sz48 rfl rfl rfl (by simp [Value.oneCell']) (by simp [*])) ?_
   rintro _ w24 H25'
   have H25 : St w _ [[(g7, Rw 48 ([I ((0 : Nat) : Int), .string (.empty), .slice none 0 0]))], _, _, _] w24 := H25'
   refine sy (v := .bool (false)) (y_assign (v := .bool (false)) rfl) ?_
   refine sy (v := I ((190 : Nat) : Int)) (y_assign (v := I ((190 : Nat) : Int)) rfl) ?_
   refine sy (v := .slice none 0 0) (y_assign (v := .slice none 0 0) rfl) ?_
   refine c_nil ?_
   refine n_then ?_
   refine wp_ret ?_
   refine r_then ?_
   refine e_r4 Try.results97 (rv_b H25 (i := 0) rfl ag48 sz48 rfl rfl) (rv_t rfl) (rv_t rfl) (rv_t rfl) ?_
   have H26 : St w _ [_, _, _, _] w24 := H25.foc 1 rfl rfl
   have H27 : St w _ [_] w24 := H26.take 1 rfl
   have hck : checkA root kind key n (PE ls) = (190, none) := ck_no (by first | assumption | exact Decidable.not_not.1 (by assumption)) (by omega) (fun ⟨h1, h2, h3⟩ => by omega)
   rw [hck]
   exact ⟨_, rfl, c0, _, _, _, _, rfl, rfl, (.inl rfl), bko_new g10, fun h => absurd h (by simp), H27⟩
  ·
   refine gsy (v := Ad (bs g4) (0 + 1)) (gv_of (t := 27) rfl rfl rfl) (decide_eq_false hp22) (y_fld Try.underlying41 rfl rfl sz39 (by decide) rfl) ?_
   refine gsy (v := lv) (gv_of (t := 27) rfl rfl rfl) (decide_eq_false hp22) (y_load sc39 rfl (H15.cell 2 rfl rfl)) ?_
   refine gsy (v := I ((ls.length : Nat) : Int)) (gv_of (t := 27) rfl rfl rfl) (decide_eq_false hp22) (y_lenR Try.underlying39 (hL.st H15).rd rfl) ?_
   refine gsy (v := .bool (decide (2 < ls.length))) (gv_of (t := 27) rfl rfl rfl) (decide_eq_false hp22) (n_gtr (a := ls.length) (b := 2) rfl rfl) ?_
   refine sy (v := .bool (decide (2 < ls.length))) (y_pickF rfl (decide_eq_false hp22) rfl) ?_
   refine sy (v := .bool (decide (2 < ls.length))) (y_move rfl) ?_
   by_cases hp28 : 2 < ls.length
   ·
    refine gno (gv_of (t := 33) rfl rfl rfl) (decide_eq_true hp28) ?_
    refine gno (gv_of (t := 33) rfl rfl rfl) (decide_eq_true hp28) ?_
    refine gno (gv_of (t := 33) rfl rfl rfl) (decide_eq_true hp28) ?_
    refine gno (gv_of (t := 33) rfl rfl rfl) (decide_eq_true hp28) ?_
    refine gno (gv_of (t := 33) rfl rfl rfl) (decide_eq_true hp28) ?_
    refine gno (gv_of (t := 33) rfl rfl rfl) (decide_eq_true hp28) ?_
    refine gno (gv_of (t := 33) rfl rfl rfl) (decide_eq_true hp28) ?_
    refine gno (gv_of (t := 33) rfl rfl rfl) (decide_eq_true hp28) ?_
    refine sy (v := .bool (true)) (y_pickT (v := .bool (true)) rfl (decide_eq_true hp28) rfl) ?_
    refine c_nil ?_
    refine n_then ?_
    refine c_t rfl rfl ?_
    refine c_seq ?_
    refine c_reg ?_
    refine sy (v := .agg ([I ((0 : Nat) : Int), .string .empty, .slice none 0 0]).toArray) (y_build (parts := []) (pv := []) (us := [I ((0 : Nat) : Int), .string (.empty), .slice none 0 0]) trivial (by kernel_rfl)) ?_
    have H29 : St w _ [_, _, _, _] w13 := H15.foc 1 rfl rfl
    refine s0 (ow_storeW (us := [I ((0 : Nat) : Int), .string (.empty), .slice none 0 0]) H29 sz48 rfl rfl rfl (by simp [Value.oneCell']) (by simp [*])) ?_
    rintro _ w30 H31'
    have H31 : St w _ [[(g7, Rw 48 ([I ((0 : Nat) : Int), .string (.empty), .slice none 0 0]))], _, _, _] w30 := H31'
    refine sy (v := .bool (false)) (y_assign (v := .bool (false)) rfl) ?_
    refine sy (v := I ((190 : Nat) : Int)) (y_assign (v := I ((190 : Nat) : Int)) rfl) ?_
    refine sy (v := .slice none 0 0) (y_assign (v := .slice none 0 0) rfl) ?_
    refine c_nil ?_
    refine n_then ?_
    refine wp_ret ?_
    refine r_then ?_
    refine e_r4 Try.results97 (rv_b H31 (i := 0) rfl ag48 sz48 rfl rfl) (rv_t rfl) (rv_t rfl) (rv_t rfl) ?_
    have H32 : St w _ [_, _, _, _] w30 := H31.foc 1 rfl rfl
    have H33 : St w _ [_] w30 := H32.take 1 rfl
    have hck : checkA root kind key n (PE ls) = (190, none) := ck_no (by first | assumption | exact Decidable.not_not.1 (by assumption)) (by omega) (fun ⟨h1, h2, h3⟩ => by omega)
    rw [hck]
    exact ⟨_, rfl, c0, _, _, _, _, rfl, rfl, (.inl rfl), bko_new g10, fun h => absurd h (by simp), H33⟩
   ·
    refine gsy (v := Ad (bs g4) (0 + 0)) (gv_of (t := 33) rfl rfl rfl) (decide_eq_false hp28) (y_fld Try.underlying41 rfl rfl sz3 (by decide) rfl) ?_
    refine gsy (v := I (n)) (gv_of (t := 33) rfl rfl rfl) (decide_eq_false hp28) (y_load sc3 rfl (H15.cell 2 rfl rfl)) ?_
    refine gsy (v := .bool (decide (n = ((0 : Nat) : Int)))) (gv_of (t := 33) rfl rfl rfl) (decide_eq_false hp28) (y_eqlK (i := n) (j := ((0 : Nat) : Int)) rfl rfl) ?_
    refine gsy (v := Ad (bs g4) (0 + 1)) (gv_of (t := 33) rfl rfl rfl) (decide_eq_false hp28) (y_fld Try.underlying41 rfl rfl sz39 (by decide) rfl) ?_
    refine gsy (v := lv) (gv_of (t := 33) rfl rfl rfl) (decide_eq_false hp28) (y_load sc39 rfl (H15.cell 2 rfl rfl)) ?_
    refine gsy (v := I ((ls.length : Nat) : Int)) (gv_of (t := 33) rfl rfl rfl) (decide_eq_false hp28) (y_lenR Try.underlying39 (hL.st H15).rd rfl) ?_
    refine gsy (v := .bool (decide (ls.length = 0))) (gv_of (t := 33) rfl rfl rfl) (decide_eq_false hp28) (n_eql (a := ls.length) (b := 0) rfl rfl) ?_
    refine gsy (v := .bool (decide (¬ (n = ((0 : Nat) : Int) ↔ ls.length = 0)))) (gv_of (t := 33) rfl rfl rfl) (decide_eq_false hp28) (y_neqPP rfl rfl Try.underlying4) ?_
    refine sy (v := .bool (decide (¬ (n = ((0 : Nat) : Int) ↔ ls.length = 0)))) (y_pickF rfl (decide_eq_false hp28) rfl) ?_
    refine c_nil ?_
    refine n_then ?_
    refine c_if rfl (fun hc34 => ?_) (fun hc34 => ?_)
    ·
     refine c_seq ?_
     refine c_reg ?_
     refine sy (v := .agg ([I ((0 : Nat) : Int), .string .empty, .slice none 0 0]).toArray) (y_build (parts := []) (pv := []) (us := [I ((0 : Nat) : Int), .string (.empty), .slice none 0 0]) trivial (by kernel_rfl)) ?_
     have H35 : St w _ [_, _, _, _] w13 := H15.foc 1 rfl rfl
     refine s0 (ow_storeW (us := [I ((0 : Nat) : Int), .string (.empty), .slice none 0 0]) H35 sz48 rfl rfl rfl (by simp [Value.oneCell']) (by simp [*])) ?_
     rintro _ w36 H37'
     have H37 : St w _ [[(g7, Rw 48 ([I ((0 : Nat) : Int), .string (.empty), .slice none 0 0]))], _, _, _] w36 := H37'
     refine sy (v := .bool (false)) (y_assign (v := .bool (false)) rfl) ?_
     refine sy (v := I ((190 : Nat) : Int)) (y_assign (v := I ((190 : Nat) : Int)) rfl) ?_
     refine sy (v := .slice none 0 0) (y_assign (v := .slice none 0 0) rfl) ?_
     refine c_nil ?_
     refine n_then ?_
     refine wp_ret ?_
     refine r_then ?_
     refine e_r4 Try.results97 (rv_b H37 (i := 0) rfl ag48 sz48 rfl rfl) (rv_t rfl) (rv_t rfl) (rv_t rfl) ?_
     have H38 : St w _ [_, _, _, _] w36 := H37.foc 1 rfl rfl
     have H39 : St w _ [_] w36 := H38.take 1 rfl
     have hck : checkA root kind key n (PE ls) = (190, none) := ck_no (by first | assumption | exact Decidable.not_not.1 (by assumption)) (by omega) (fun ⟨h1, h2, h3⟩ => by omega)
     rw [hck]
     exact ⟨_, rfl, c0, _, _, _, _, rfl, rfl, (.inl rfl), bko_new g10, fun h => absurd h (by simp), H39⟩
    ·
     refine wp_skip ?_
     refine n_then ?_
     refine c_seq ?_
     refine c_seq ?_
     refine c_reg ?_
     refine sy (v := Ad (bs g4) (0 + 0)) (y_fld Try.underlying41 rfl rfl sz3 (by decide) rfl) ?_
     refine sy (v := I (n)) (y_load sc3 rfl (H15.cell 2 rfl rfl)) ?_
     refine sy (v := .bool (decide (n = ((0 : Nat) : Int)))) (y_eqlK (i := n) (j := ((0 : Nat) : Int)) rfl rfl) ?_
     refine c_nil ?_
     refine n_then ?_
     refine c_if rfl (fun hc40 => ?_) (fun hc40 => ?_)
     ·
      refine c_seq ?_
      refine c_seq ?_
      refine drawSub (.step 0 0 (.step 0 1 (.step 0 3 (.step 1 2 (.step 0 4 .nil))))) mixed H15 (fun _ h => h.drop) (by kernel_rfl) (by kernel_rfl) (by kernel_rfl) ?_
      intro w41 H42
      refine pt (v := Ad (bs g10) (0)) rfl (fun wS HS => y_move rfl) ?_
      refine pt (v := .agg (([0, 0, 0, 0, 0, 0, 0, 0, 0, 0, 0, 0, 0, 0, 0, 0, 0, 0, 0, 0, 0, 0, 0, 0, 0, 0, 0, 0, 0, 0, 0, 0]).map B8).toArray) rfl (fun wS HS => y_build (parts := []) (pv := []) (us := ([0, 0, 0, 0, 0, 0, 0, 0, 0, 0, 0, 0, 0, 0, 0, 0, 0, 0, 0, 0, 0, 0, 0, 0, 0, 0, 0, 0, 0, 0, 0, 0]).map B8) trivial (by kernel_rfl)) ?_
      refine pt (v := .agg (root.map B8).toArray) rfl (fun wS HS => y_loadA (us := (root).map B8) ag26 sz26 ((List.length_map _).trans hr) rfl (fun j u hu => (HS.cell 2 rfl (by rw [Nat.zero_add]; exact hu)))) ?_
      refine pl rfl (ow_call fn129 rfl (btop_c g10 ([] : List (List UInt8)) [(g10, Rw 120 [.slice none 0 0])] 0 ([0, 0, 0, 0, 0, 0, 0, 0, 0, 0, 0, 0, 0, 0, 0, 0, 0, 0, 0, 0, 0, 0, 0, 0, 0, 0, 0, 0, 0, 0, 0, 0]) _ (bk_new g10) (fun p hp => H42.own _ List.mem_cons_self p hp) (by simp [*]) (by omega) (by first | omega | simp)) ⟨rfl, rfl, rfl, trivial⟩) ?_
      rintro _ w44 ⟨rfl, E43, hK46, H45⟩
      have H47 : St w _ [_, _, _, _] w44 := H42.appE H45
      have H48 : St w _ [_, _, _, _] w44 := H47.foc 3 rfl rfl
      have H49 : St w _ [_, _, _, _] w44 := H48.foc 3 rfl rfl
      have H50 : St w _ [_, _, _, _] w44 := H49.foc 3 rfl rfl
      have H51 : St w _ [_, _, _] w44 := H50.take 3 rfl
      refine ⟨H51, ?_⟩
      refine pt (v := .bool (decide ((topH 0 ([] : List UInt8)) ≠ root))) rfl (fun wS HS => y_neqArr (l1 := topH 0 ([] : List UInt8)) (l2 := root) Try.underlying26 sz5 sc5 Try.underlying5 gt26 (topH_len 0 ([] : List UInt8)) hr rfl rfl) ?_
      refine p_nil ?_
      refine n_then ?_
      refine c_if rfl (fun hc52 => ?_) (fun hc52 => ?_)
      ·
       refine c_seq ?_
       have H53 : St w _ [_, _, _, _] w44 := H47.foc 1 rfl rfl
       refine drawSub (.step 0 0 (.step 0 1 (.step 0 2 (.step 0 3 (.step 0 4 (.step 1 5 (.step 0 6 (.step 0 7 (.step 2 8 .nil))))))))) mixed H53 (fun _ h => h.drop) (by kernel_rfl) (by kernel_rfl) (by kernel_rfl) ?_
       intro w54 H55
       refine pt (v := .agg ([I ((0 : Nat) : Int), .string .empty, .slice none 0 0]).toArray) rfl (fun wS HS => y_build (parts := []) (pv := []) (us := [I ((0 : Nat) : Int), .string (.empty), .slice none 0 0]) trivial (by kernel_rfl)) ?_
       refine pt (v := Ad (bs g10) (0)) rfl (fun wS HS => y_move rfl) ?_
       refine pt (v := Ad (bs g10) (0)) rfl (fun wS HS => y_nilCheck rfl) ?_
       refine pt (v := Ad (bs g10) (0 + 0)) rfl (fun wS HS => y_fld Try.underlying120 rfl rfl sz36 (by decide) rfl) ?_
       obtain ⟨rv56, hO57⟩ := BkP.op hK46
       refine pt (v := rv56) rfl (fun wS HS => y_load sc36 rfl (cell_rw (hO57.cell HS 0 rfl) 0)) ?_
       refine p0 rfl (ow_storeW (us := [I ((0 : Nat) : Int), .string (.empty), .slice none 0 0]) H55 sz48 rfl rfl rfl (by simp [Value.oneCell']) (by simp [*])) ?_
       rintro _ w58 H59'
       have H59 : St w _ [[(g7, Rw 48 ([I ((0 : Nat) : Int), .string (.empty), .slice none 0 0]))], _, _, _] w58 := H59'
       have H60 : St w _ [_, _, _, _] w58 := H59.foc 3 rfl rfl
       have H61 : St w _ [_, _, _, _] w58 := H60.foc 3 rfl rfl
       have H62 : St w _ [_, _, _, _] w58 := H61.foc 3 rfl rfl
       have H63 : St w _ [_, _, _] w58 := H62.take 3 rfl
       refine ⟨H63, ?_⟩
       refine pt (v := .bool (false)) rfl (fun wS HS => y_assign (v := .bool (false)) rfl) ?_
       refine pt (v := I ((190 : Nat) : Int)) rfl (fun wS HS => y_assign (v := I ((190 : Nat) : Int)) rfl) ?_
       refine tly (v := rv56) rfl (y_assign rfl) ?_
       refine p_nil ?_
       refine n_then ?_
       refine wp_ret ?_
       refine r_then (r_then ?_)
       refine e_r4 Try.results97 (rv_b H59 (i := 0) rfl ag48 sz48 rfl rfl) (rv_t rfl) (rv_t rfl) (rv_t rfl) ?_
       have H64 : St w _ [_, _, _, _] w58 := H59.foc 1 rfl rfl
       have H65 : St w _ [_] w58 := H64.take 1 rfl
       have hck : checkA root kind key n (PE ls) = (190, none) := by
        rw [ck_top (by first | assumption | exact Decidable.not_not.1 (by assumption)) (by omega) (by omega), if_neg (by assumption)]
       rw [hck]
       exact ⟨_, rfl, c0, _, _, _, _, rfl, rfl, (.inl rfl), hO57, fun h => absurd h (by simp), H65⟩
      ·
       refine wp_skip ?_
       refine n_then ?_
       refine c_seq ?_
       have H66 : St w _ [_, _, _, _] w44 := H47.foc 1 rfl rfl
       refine drawSub (.step 0 0 (.step 0 1 (.step 0 2 (.step 0 3 (.step 0 4 (.step 1 5 (.step 0 6 (.step 0 7 (.step 2 8 .nil))))))))) mixed H66 (fun _ h => h.drop) (by kernel_rfl) (by kernel_rfl) (by kernel_rfl) ?_
       intro w67 H68
       refine pt (v := .agg ([I ((0 : Nat) : Int), .string .empty, .slice none 0 0]).toArray) rfl (fun wS HS => y_build (parts := []) (pv := []) (us := [I ((0 : Nat) : Int), .string (.empty), .slice none 0 0]) trivial (by kernel_rfl)) ?_
       refine pt (v := Ad (bs g10) (0)) rfl (fun wS HS => y_move rfl) ?_
       refine pt (v := Ad (bs g10) (0)) rfl (fun wS HS => y_nilCheck rfl) ?_
       refine pt (v := Ad (bs g10) (0 + 0)) rfl (fun wS HS => y_fld Try.underlying120 rfl rfl sz36 (by decide) rfl) ?_
       obtain ⟨rv69, hO70⟩ := BkP.op hK46
       refine pt (v := rv69) rfl (fun wS HS => y_load sc36 rfl (cell_rw (hO70.cell HS 0 rfl) 0)) ?_
       refine p0 rfl (ow_storeW (us := [I ((0 : Nat) : Int), .string (.empty), .slice none 0 0]) H68 sz48 rfl rfl rfl (by simp [Value.oneCell']) (by simp [*])) ?_
       rintro _ w71 H72'
       have H72 : St w _ [[(g7, Rw 48 ([I ((0 : Nat) : Int), .string (.empty), .slice none 0 0]))], _, _, _] w71 := H72'
       have H73 : St w _ [_, _, _, _] w71 := H72.foc 3 rfl rfl
       have H74 : St w _ [_, _, _, _] w71 := H73.foc 3 rfl rfl
       have H75 : St w _ [_, _, _, _] w71 := H74.foc 3 rfl rfl
       have H76 : St w _ [_, _, _] w71 := H75.take 3 rfl
       refine ⟨H76, ?_⟩
       refine pt (v := .bool (false)) rfl (fun wS HS => y_assign (v := .bool (false)) rfl) ?_
       refine pt (v := I ((0 : Nat) : Int)) rfl (fun wS HS => y_assign (v := I ((0 : Nat) : Int)) rfl) ?_
       refine tly (v := rv69) rfl (y_assign rfl) ?_
       refine p_nil ?_
       refine n_then ?_
       refine wp_ret ?_
       refine r_then ?_
       refine e_r4 Try.results97 (rv_b H72 (i := 0) rfl ag48 sz48 rfl rfl) (rv_t rfl) (rv_t rfl) (rv_t rfl) ?_
       have H77 : St w _ [_, _, _, _] w71 := H72.foc 1 rfl rfl
       have H78 : St w _ [_] w71 := H77.take 1 rfl
       have hck : checkA root kind key n (PE ls) = (0, none) := by
        rw [ck_top (by first | assumption | exact Decidable.not_not.1 (by assumption)) (by omega) (by omega), if_pos (by first | assumption | exact Decidable.not_not.1 (by assumption))]
       rw [hck]
       exact ⟨_, rfl, c0, _, _, _, _, rfl, rfl, (.inl rfl), hO70, fun _ => (show rowsW n (PE ls) = [topB 0 []] from if_pos (by omega)).symm, H78⟩
     ·
      refine wp_skip ?_
      refine n_then ?_
      refine c_seq ?_
      refine c_seq ?_
      refine c_reg ?_
      refine sy (v := I ((0 : Nat) : Int)) (y_assign (v := I ((0 : Nat) : Int)) rfl) ?_
      refine c_nil ?_
      refine n_then ?_
      refine wp_block ?_
      refine c_loop (fun (j : Nat) f79 w80 => ∃ (EL : Part), f79 1 = I (kind) ∧ f79 2 = .string (bst key) ∧ f79 4 = Ad (bs g1) (0) ∧ f79 7 = Ad (bs g4) (0) ∧ f79 8 = Ad (bs g7) (0) ∧ f79 12 = Ad (bs g10) (0) ∧ f79 14 = I ((j : Nat) : Int) ∧ j ≤ ls.length ∧ BkP g10 (((PE ls).take j).flatMap (leafR n)) EL ∧ (∀ q, q < j → stands root n (ls.getD q lf0).e) ∧ St w [] [EL, [(g7, Rw 48 ([I ((0 : Nat) : Int), .string (.empty), .slice none 0 0]))], [(g4, Rw 41 ([I (n), lv]))], [(g1, Rw 26 ((root).map B8))]] w80) (fun j => ls.length - j) 0 ⟨[(g10, Rw 120 [.slice none 0 0])], rfl, rfl, rfl, rfl, rfl, rfl, rfl, (Nat.zero_le _), (bk_new g10), (fun q hq => absurd hq (by omega)), H15⟩ ?_
      rintro j f79 w80 ⟨EL, s1_81, s2_81, s4_81, s7_81, s8_81, s12_81, s14_81, hj, hKL, hz, H81⟩
      refine c_seq ?_
      refine c_seq ?_
      refine c_reg ?_
      refine sy (v := I ((j : Nat) : Int)) (y_move s14_81) ?_
      refine sy (v := Ad (bs g4) (0 + 1)) (y_fld Try.underlying41 rfl rfl sz39 (by decide) s7_81) ?_
      refine sy (v := lv) (y_load sc39 rfl (H81.cell 2 rfl rfl)) ?_
      refine sy (v := I ((ls.length : Nat) : Int)) (y_lenR Try.underlying39 (hL.st H81).rd rfl) ?_
      refine sy (v := .bool (decide (j < ls.length))) (n_lss (a := j) (b := ls.length) rfl rfl) ?_
      refine c_nil ?_
      refine n_then ?_
      refine c_if rfl (fun hc82 => ?_) (fun hc82 => ?_)
      ·
       refine wp_skip ?_
       refine n_then ?_
       refine c_seq ?_
       refine wp_block ?_
       refine c_seq ?_
       have hRl := leafs_len (n := n) (ls := ls) j (fun f hf => (hL.each f hf).le)
       have hpl := (hL.at (d := lf0) (i := j) (by omega)).le
       refine drawSub (.step 0 0 (.step 0 1 (.step 0 2 (.step 0 3 (.step 0 4 (.step 0 5 (.step 0 6 (.step 0 7 (.step 0 8 (.step 1 9 (.step 2 10 .nil))))))))))) mixed H81 (fun _ h => h.drop) (by kernel_rfl) (by kernel_rfl) (by kernel_rfl) ?_
       intro w83 H84
       by_cases hp85 : stands root n (ls.getD j lf0).e
       ·
        refine pt (v := Ad (bs g10) (0)) rfl (fun wS HS => y_move s12_81) ?_
        refine pt (v := .agg (root.map B8).toArray) rfl (fun wS HS => y_loadA (us := (root).map B8) ag26 sz26 ((List.length_map _).trans hr) s4_81 (fun j u hu => (HS.cell 2 rfl (by rw [Nat.zero_add]; exact hu)))) ?_
        refine pt (v := Ad (bs g4) (0 + 0)) rfl (fun wS HS => y_fld Try.underlying41 rfl rfl sz3 (by decide) s7_81) ?_
        refine pt (v := I (n)) rfl (fun wS HS => y_load sc3 rfl (HS.cell 1 rfl rfl)) ?_
        refine pt (v := Ad (bs g4) (0 + 1)) rfl (fun wS HS => y_fld Try.underlying41 rfl rfl sz39 (by decide) s7_81) ?_
        refine pt (v := lv) rfl (fun wS HS => y_load sc39 rfl (HS.cell 1 rfl rfl)) ?_
        refine pt (v := I ((j : Nat) : Int)) rfl (fun wS HS => y_move s14_81) ?_
        refine pt (v := Ad (sp (lv)) (j * 5)) rfl (fun wS HS => y_ixR (m := j) Try.underlying39 sz74 (hL.st HS).rd (by decide) rfl rfl rfl (by omega)) ?_
        refine pt (v := .agg ([I ((ls.getD j lf0).n), I (((ls.getD j lf0).cell).c.k), .string (bst (((ls.getD j lf0).cell).c.key)), ((ls.getD j lf0).cell).v, (ls.getD j lf0).pv]).toArray) rfl (fun wS HS => y_loadA (us := (ls.getD j lf0).cs) ag74 sz74 rfl rfl (fun j u hu => (hL.st HS).rd.cell _ _ (flat5_get (by omega) hu))) ?_
        have hh90 := LR.awayX (hL.at (d := lf0) (i := j) (by omega)) H84
        refine pl rfl (ow_call fn131 rfl (right_yes hKL (fun p hp => H84.own _ List.mem_cons_self p hp) hr hn hh90.cell hh90.rd hh90.h32 (by first | omega | (simp only [List.length_nil]; omega)) hp85) ⟨rfl, rfl, rfl, rfl, trivial⟩) ?_
        rintro _ w87 ⟨rfl, E86, hK89, H88⟩
        have H91 : St w _ [_, _, _, _] w87 := H84.appE H88
        have H92 : St w _ [_, _, _, _] w87 := H91.foc 3 rfl rfl
        have H93 : St w _ [_, _, _, _] w87 := H92.foc 3 rfl rfl
        have H94 : St w _ [_, _, _, _] w87 := H93.foc 3 rfl rfl
        have H95 : St w _ [_, _, _] w87 := H94.take 3 rfl
        refine ⟨H95, ?_⟩
        refine tly (v := .bool (true)) rfl (y_assign rfl) ?_
        refine p_nil ?_
        refine n_then ?_
        refine c_seq ?_
        refine c_reg ?_
        refine sy (v := .bool (true)) (y_move rfl) ?_
        refine sy (v := .bool (false)) (y_not (p := true) rfl) ?_
        refine c_nil ?_
        refine n_then ?_
        refine c_f rfl rfl ?_
        refine wp_skip ?_
        refine n_block (n_then ?_)
        refine c_reg ?_
        refine sy (v := I ((j : Nat) : Int)) (y_move s14_81) ?_
        refine sy (v := I ((j + 1 : Nat) : Int)) (n_add (a := j) (b := 1) rfl rfl (by omega)) ?_
        refine sy (v := I ((j + 1 : Nat) : Int)) (y_assign rfl) ?_
        refine c_nil ?_
        exact lp_next (j + 1) ⟨E86, s1_81, s2_81, s4_81, s7_81, s8_81, s12_81, rfl, (by omega), (by rw [← leafs_succ (by omega)]; exact hK89), (fun q hq => by
         by_cases e : q = j
         · rw [e]; assumption
         · exact hz q (by omega)), H91⟩ (by show _ < _; omega)
       ·
        refine pt (v := Ad (bs g10) (0)) rfl (fun wS HS => y_move s12_81) ?_
        refine pt (v := .agg (root.map B8).toArray) rfl (fun wS HS => y_loadA (us := (root).map B8) ag26 sz26 ((List.length_map _).trans hr) s4_81 (fun j u hu => (HS.cell 2 rfl (by rw [Nat.zero_add]; exact hu)))) ?_
        refine pt (v := Ad (bs g4) (0 + 0)) rfl (fun wS HS => y_fld Try.underlying41 rfl rfl sz3 (by decide) s7_81) ?_
        refine pt (v := I (n)) rfl (fun wS HS => y_load sc3 rfl (HS.cell 1 rfl rfl)) ?_
        refine pt (v := Ad (bs g4) (0 + 1)) rfl (fun wS HS => y_fld Try.underlying41 rfl rfl sz39 (by decide) s7_81) ?_
        refine pt (v := lv) rfl (fun wS HS => y_load sc39 rfl (HS.cell 1 rfl rfl)) ?_
        refine pt (v := I ((j : Nat) : Int)) rfl (fun wS HS => y_move s14_81) ?_
        refine pt (v := Ad (sp (lv)) (j * 5)) rfl (fun wS HS => y_ixR (m := j) Try.underlying39 sz74 (hL.st HS).rd (by decide) rfl rfl rfl (by omega)) ?_
        refine pt (v := .agg ([I ((ls.getD j lf0).n), I (((ls.getD j lf0).cell).c.k), .string (bst (((ls.getD j lf0).cell).c.key)), ((ls.getD j lf0).cell).v, (ls.getD j lf0).pv]).toArray) rfl (fun wS HS => y_loadA (us := (ls.getD j lf0).cs) ag74 sz74 rfl rfl (fun j u hu => (hL.st HS).rd.cell _ _ (flat5_get (by omega) hu))) ?_
        have hh100 := LR.awayX (hL.at (d := lf0) (i := j) (by omega)) H84
        refine pl rfl (ow_call fn131 rfl (right_no hKL (fun p hp => H84.own _ List.mem_cons_self p hp) hr hn hh100.cell hh100.rd hh100.h32 (by first | omega | (simp only [List.length_nil]; omega)) hp85) ⟨rfl, rfl, rfl, rfl, trivial⟩) ?_
        rintro _ w97 ⟨rfl, E96, hK99, H98⟩
        have H101 : St w _ [_, _, _, _] w97 := H84.appE H98
        have H102 : St w _ [_, _, _, _] w97 := H101.foc 3 rfl rfl
        have H103 : St w _ [_, _, _, _] w97 := H102.foc 3 rfl rfl
        have H104 : St w _ [_, _, _, _] w97 := H103.foc 3 rfl rfl
        have H105 : St w _ [_, _, _] w97 := H104.take 3 rfl
        refine ⟨H105, ?_⟩
        refine tly (v := .bool (false)) rfl (y_assign rfl) ?_
        refine p_nil ?_
        refine n_then ?_
        refine c_seq ?_
        refine c_reg ?_
        refine sy (v := .bool (false)) (y_move rfl) ?_
        refine sy (v := .bool (true)) (y_not (p := false) rfl) ?_
        refine c_nil ?_
        refine n_then ?_
        refine c_t rfl rfl ?_
        refine c_seq ?_
        have H106 : St w _ [_, _, _, _] w97 := H101.foc 1 rfl rfl
        refine drawSub (.step 0 0 (.step 0 1 (.step 0 2 (.step 0 3 (.step 0 4 (.step 1 5 (.step 0 6 (.step 0 7 (.step 2 8 .nil))))))))) mixed H106 (fun _ h => h.drop) (by kernel_rfl) (by kernel_rfl) (by kernel_rfl) ?_
        intro w107 H108
        refine pt (v := .agg ([I ((0 : Nat) : Int), .string .empty, .slice none 0 0]).toArray) rfl (fun wS HS => y_build (parts := []) (pv := []) (us := [I ((0 : Nat) : Int), .string (.empty), .slice none 0 0]) trivial (by kernel_rfl)) ?_
        refine pt (v := Ad (bs g10) (0)) rfl (fun wS HS => y_move s12_81) ?_
        refine pt (v := Ad (bs g10) (0)) rfl (fun wS HS => y_nilCheck rfl) ?_
        refine pt (v := Ad (bs g10) (0 + 0)) rfl (fun wS HS => y_fld Try.underlying120 rfl rfl sz36 (by decide) rfl) ?_
        obtain ⟨rv109, hO110⟩ := BkP.op hK99
        refine pt (v := rv109) rfl (fun wS HS => y_load sc36 rfl (cell_rw (hO110.cell HS 0 rfl) 0)) ?_
        refine p0 rfl (ow_storeW (us := [I ((0 : Nat) : Int), .string (.empty), .slice none 0 0]) H108 sz48 rfl s8_81 rfl (by simp [Value.oneCell']) (by simp [*])) ?_
        rintro _ w111 H112'
        have H112 : St w _ [[(g7, Rw 48 ([I ((0 : Nat) : Int), .string (.empty), .slice none 0 0]))], _, _, _] w111 := H112'
        have H113 : St w _ [_, _, _, _] w111 := H112.foc 3 rfl rfl
        have H114 : St w _ [_, _, _, _] w111 := H113.foc 3 rfl rfl
        have H115 : St w _ [_, _, _, _] w111 := H114.foc 3 rfl rfl
        have H116 : St w _ [_, _, _] w111 := H115.take 3 rfl
        refine ⟨H116, ?_⟩
        refine pt (v := .bool (false)) rfl (fun wS HS => y_assign (v := .bool (false)) rfl) ?_
        refine pt (v := I ((190 : Nat) : Int)) rfl (fun wS HS => y_assign (v := I ((190 : Nat) : Int)) rfl) ?_
        refine tly (v := rv109) rfl (y_assign rfl) ?_
        refine p_nil ?_
        refine n_then ?_
        refine wp_ret ?_
        refine r_block (r_then (r_then (r_block (r_then ?_))))
        refine e_r4 Try.results97 (rv_b H112 (i := 0) rfl ag48 sz48 rfl s8_81) (rv_t rfl) (rv_t rfl) (rv_t rfl) ?_
        have H117 : St w _ [_, _, _, _] w111 := H112.foc 1 rfl rfl
        have H118 : St w _ [_] w111 := H117.take 1 rfl
        have hck : checkA root kind key n (PE ls) = (190, none) := ck_no (by first | assumption | exact Decidable.not_not.1 (by assumption)) (by omega) (fun ⟨h1, h2, h3⟩ => absurd (h3 _ (pe_mem (j := j) (by omega))) (by assumption))
        rw [hck]
        exact ⟨_, rfl, c0, _, _, _, _, rfl, rfl, (.inl rfl), hO110, fun h => absurd h (by simp), H118⟩
      ·
       obtain rfl : j = ls.length := by omega
       have hal : ∀ f ∈ PE ls, stands root n f := pe_all hz
       have hfull : (PE ls).take ls.length = PE ls := List.take_of_length_le (by rw [List.length_map]; exact Nat.le_refl _)
       rw [hfull] at hKL
       refine wp_exit ?_
       refine x_then (x_then (x_hit (n_then ?_)))
       refine c_seq ?_
       refine c_reg ?_
       refine sy (v := I (kind)) (y_move s1_81) ?_
       refine sy (v := .string (bst key)) (y_move s2_81) ?_
       refine sy (v := .agg ([I n, lv]).toArray) (y_loadA (us := [I (n), lv]) ag41 sz41 rfl s7_81 (fun j u hu => (H81.cell 2 rfl (by rw [Nat.zero_add]; exact hu)))) ?_
       refine st (ow_call fn132 rfl (says_c kind key n lv ls _ hn (by omega) (hL.st H81).nil (by omega) (fun j hj => ⟨(hz j (by omega)).2.1, (hz j (by omega)).2.2.1⟩)) ⟨rfl, rfl, rfl, trivial⟩) ?_
       rintro _ w119 ⟨rfl, hB120⟩
       have H121 : St w _ [_, _, _, _] w119 := H81.call hB120
       refine sy (v := I (saysA kind key n (PE ls))) (y_assign rfl) ?_
       refine c_nil ?_
       refine n_then ?_
       refine c_seq ?_
       refine c_seq ?_
       refine c_reg ?_
       refine sy (v := I (saysA kind key n (PE ls))) (y_move rfl) ?_
       refine sy (v := .bool (decide ((saysA kind key n (PE ls)) < ((0 : Nat) : Int)))) (y_lss (i := (saysA kind key n (PE ls))) (j := ((0 : Nat) : Int)) rfl rfl) ?_
       refine c_nil ?_
       refine n_then ?_
       refine c_if rfl (fun hc122 => ?_) (fun hc122 => ?_)
       ·
        refine c_seq ?_
        have H123 : St w _ [_, _, _, _] w119 := H121.foc 1 rfl rfl
        refine drawSub (.step 0 0 (.step 0 1 (.step 0 2 (.step 0 3 (.step 0 4 (.step 1 5 (.step 0 6 (.step 0 7 (.step 2 8 .nil))))))))) mixed H123 (fun _ h => h.drop) (by kernel_rfl) (by kernel_rfl) (by kernel_rfl) ?_
        intro w124 H125
        refine pt (v := .agg ([I ((0 : Nat) : Int), .string .empty, .slice none 0 0]).toArray) rfl (fun wS HS => y_build (parts := []) (pv := []) (us := [I ((0 : Nat) : Int), .string (.empty), .slice none 0 0]) trivial (by kernel_rfl)) ?_
        refine pt (v := Ad (bs g10) (0)) rfl (fun wS HS => y_move s12_81) ?_
        refine pt (v := Ad (bs g10) (0)) rfl (fun wS HS => y_nilCheck rfl) ?_
        refine pt (v := Ad (bs g10) (0 + 0)) rfl (fun wS HS => y_fld Try.underlying120 rfl rfl sz36 (by decide) rfl) ?_
        obtain ⟨rv126, hO127⟩ := BkP.op hKL
        refine pt (v := rv126) rfl (fun wS HS => y_load sc36 rfl (cell_rw (hO127.cell HS 0 rfl) 0)) ?_
        refine p0 rfl (ow_storeW (us := [I ((0 : Nat) : Int), .string (.empty), .slice none 0 0]) H125 sz48 rfl s8_81 rfl (by simp [Value.oneCell']) (by simp [*])) ?_
        rintro _ w128 H129'
        have H129 : St w _ [[(g7, Rw 48 ([I ((0 : Nat) : Int), .string (.empty), .slice none 0 0]))], _, _, _] w128 := H129'
        have H130 : St w _ [_, _, _, _] w128 := H129.foc 3 rfl rfl
        have H131 : St w _ [_, _, _, _] w128 := H130.foc 3 rfl rfl
        have H132 : St w _ [_, _, _, _] w128 := H131.foc 3 rfl rfl
        have H133 : St w _ [_, _, _] w128 := H132.take 3 rfl
        refine ⟨H133, ?_⟩
        refine pt (v := .bool (false)) rfl (fun wS HS => y_assign (v := .bool (false)) rfl) ?_
        refine pt (v := I ((190 : Nat) : Int)) rfl (fun wS HS => y_assign (v := I ((190 : Nat) : Int)) rfl) ?_
        refine tly (v := rv126) rfl (y_assign rfl) ?_
        refine p_nil ?_
        refine n_then ?_
        refine wp_ret ?_
        refine r_then ?_
        refine e_r4 Try.results97 (rv_b H129 (i := 0) rfl ag48 sz48 rfl s8_81) (rv_t rfl) (rv_t rfl) (rv_t rfl) ?_
        have H134 : St w _ [_, _, _, _] w128 := H129.foc 1 rfl rfl
        have H135 : St w _ [_] w128 := H134.take 1 rfl
        have hsv := says_vals (kind := kind) (key := key) (n := n) (ls := ls)
        have hck : checkA root kind key n (PE ls) = (190, none) := by
         rw [ck_say (by first | assumption | exact Decidable.not_not.1 (by assumption)) (by omega) (by omega) hal, if_neg (by omega), if_neg (by omega)]
        rw [hck]
        exact ⟨_, rfl, c0, _, _, _, _, rfl, rfl, (.inl rfl), hO127, fun h => absurd h (by simp), H135⟩
       ·
        refine wp_skip ?_
        refine n_then ?_
        refine c_seq ?_
        refine c_seq ?_
        refine c_reg ?_
        refine sy (v := I (saysA kind key n (PE ls))) (y_move rfl) ?_
        refine sy (v := .bool (decide ((saysA kind key n (PE ls)) = ((0 : Nat) : Int)))) (y_eqlK (i := (saysA kind key n (PE ls))) (j := ((0 : Nat) : Int)) rfl rfl) ?_
        refine c_nil ?_
        refine n_then ?_
        refine c_if rfl (fun hc136 => ?_) (fun hc136 => ?_)
        ·
         refine c_seq ?_
         have H137 : St w _ [_, _, _, _] w119 := H121.foc 1 rfl rfl
         refine drawSub (.step 0 0 (.step 0 1 (.step 0 2 (.step 0 3 (.step 0 4 (.step 1 5 (.step 0 6 (.step 0 7 (.step 2 8 .nil))))))))) mixed H137 (fun _ h => h.drop) (by kernel_rfl) (by kernel_rfl) (by kernel_rfl) ?_
         intro w138 H139
         refine pt (v := .agg ([I ((0 : Nat) : Int), .string .empty, .slice none 0 0]).toArray) rfl (fun wS HS => y_build (parts := []) (pv := []) (us := [I ((0 : Nat) : Int), .string (.empty), .slice none 0 0]) trivial (by kernel_rfl)) ?_
         refine pt (v := Ad (bs g10) (0)) rfl (fun wS HS => y_move s12_81) ?_
         refine pt (v := Ad (bs g10) (0)) rfl (fun wS HS => y_nilCheck rfl) ?_
         refine pt (v := Ad (bs g10) (0 + 0)) rfl (fun wS HS => y_fld Try.underlying120 rfl rfl sz36 (by decide) rfl) ?_
         obtain ⟨rv140, hO141⟩ := BkP.op hKL
         refine pt (v := rv140) rfl (fun wS HS => y_load sc36 rfl (cell_rw (hO141.cell HS 0 rfl) 0)) ?_
         refine p0 rfl (ow_storeW (us := [I ((0 : Nat) : Int), .string (.empty), .slice none 0 0]) H139 sz48 rfl s8_81 rfl (by simp [Value.oneCell']) (by simp [*])) ?_
         rintro _ w142 H143'
         have H143 : St w _ [[(g7, Rw 48 ([I ((0 : Nat) : Int), .string (.empty), .slice none 0 0]))], _, _, _] w142 := H143'
         have H144 : St w _ [_, _, _, _] w142 := H143.foc 3 rfl rfl
         have H145 : St w _ [_, _, _, _] w142 := H144.foc 3 rfl rfl
         have H146 : St w _ [_, _, _, _] w142 := H145.foc 3 rfl rfl
         have H147 : St w _ [_, _, _] w142 := H146.take 3 rfl
         refine ⟨H147, ?_⟩
         refine pt (v := .bool (false)) rfl (fun wS HS => y_assign (v := .bool (false)) rfl) ?_
         refine pt (v := I ((0 : Nat) : Int)) rfl (fun wS HS => y_assign (v := I ((0 : Nat) : Int)) rfl) ?_
         refine tly (v := rv140) rfl (y_assign rfl) ?_
         refine p_nil ?_
         refine n_then ?_
         refine wp_ret ?_
         refine r_then ?_
         refine e_r4 Try.results97 (rv_b H143 (i := 0) rfl ag48 sz48 rfl s8_81) (rv_t rfl) (rv_t rfl) (rv_t rfl) ?_
         have H148 : St w _ [_, _, _, _] w142 := H143.foc 1 rfl rfl
         have H149 : St w _ [_] w142 := H148.take 1 rfl
         have hsv := says_vals (kind := kind) (key := key) (n := n) (ls := ls)
         have hck : checkA root kind key n (PE ls) = (0, none) := by
          rw [ck_say (by first | assumption | exact Decidable.not_not.1 (by assumption)) (by omega) (by omega) hal, if_neg (by omega), if_pos (by omega)]
         rw [hck]
         exact ⟨_, rfl, c0, _, _, _, _, rfl, rfl, (.inl rfl), hO141, fun _ => (show rowsW n (PE ls) = (PE ls).flatMap (leafR n) from if_neg (by omega)).symm, H149⟩
        ·
         refine wp_skip ?_
         refine n_then ?_
         refine c_seq ?_
         have H150 : St w _ [_, _, _, _] w119 := H121.foc 1 rfl rfl
         refine drawSub (.step 0 0 (.step 0 1 (.step 0 2 (.step 0 3 (.step 0 4 (.step 0 5 (.step 0 6 (.step 0 7 (.step 0 8 (.step 1 9 (.step 0 10 (.step 0 11 (.step 2 12 .nil))))))))))))) mixed H150 (fun _ h => h.drop) (by kernel_rfl) (by kernel_rfl) (by kernel_rfl) ?_
         intro w151 H152
         refine pt (v := Ad (bs g4) (0 + 1)) rfl (fun wS HS => y_fld Try.underlying41 rfl rfl sz39 (by decide) s7_81) ?_
         refine pt (v := lv) rfl (fun wS HS => y_load sc39 rfl (HS.cell 1 rfl rfl)) ?_
         refine pt (v := Ad (sp (lv)) (0 * 5)) rfl (fun wS HS => y_ixR (m := 0) Try.underlying39 sz74 (hL.st HS).rd (by decide) rfl rfl rfl (by omega)) ?_
         refine pt (v := Ad (sp (lv)) ((0 * 5) + 1)) rfl (fun wS HS => y_fld Try.underlying74 rfl rfl sz48 (by decide) rfl) ?_
         refine pt (v := .agg ([I (((ls.getD 0 lf0).cell).c.k), .string (bst (((ls.getD 0 lf0).cell).c.key)), ((ls.getD 0 lf0).cell).v]).toArray) rfl (fun wS HS => y_loadA (us := (ls.getD 0 lf0).cell.cs) ag48 sz48 rfl rfl (fun j u hu => by rw [Nat.add_assoc]; exact (hL.st HS).rd.cell _ _ (flat5_get (i := 0) (by omega) (leaf_mid hu)))) ?_
         refine pt (v := Ad (bs g10) (0)) rfl (fun wS HS => y_move s12_81) ?_
         refine pt (v := Ad (bs g10) (0)) rfl (fun wS HS => y_nilCheck rfl) ?_
         refine pt (v := Ad (bs g10) (0 + 0)) rfl (fun wS HS => y_fld Try.underlying120 rfl rfl sz36 (by decide) rfl) ?_
         obtain ⟨rv153, hO154⟩ := BkP.op hKL
         refine pt (v := rv153) rfl (fun wS HS => y_load sc36 rfl (cell_rw (hO154.cell HS 0 rfl) 0)) ?_
         refine p0 rfl (ow_storeW (us := [I (((ls.getD 0 lf0).cell).c.k), .string (bst (((ls.getD 0 lf0).cell).c.key)), ((ls.getD 0 lf0).cell).v]) H152 sz48 rfl s8_81 rfl (by intro u hu; simp only [List.mem_cons, List.not_mem_nil, or_false] at hu; rcases hu with rfl | rfl | rfl <;> first | rfl | exact Rd.one (((hL.at (d := lf0) (i := 0) (by omega)).cell).1.st H152)) (by simp [*])) ?_
         rintro _ w155 H156'
         have H156 : St w _ [[(g7, Rw 48 ([I (((ls.getD 0 lf0).cell).c.k), .string (bst (((ls.getD 0 lf0).cell).c.key)), ((ls.getD 0 lf0).cell).v]))], _, _, _] w155 := H156'
         have H157 : St w _ [_, _, _, _] w155 := H156.foc 3 rfl rfl
         have H158 : St w _ [_, _, _, _] w155 := H157.foc 3 rfl rfl
         have H159 : St w _ [_, _, _, _] w155 := H158.foc 3 rfl rfl
         have H160 : St w _ [_, _, _] w155 := H159.take 3 rfl
         refine ⟨H160, ?_⟩
         refine pt (v := .bool (true)) rfl (fun wS HS => y_assign (v := .bool (true)) rfl) ?_
         refine pt (v := I ((0 : Nat) : Int)) rfl (fun wS HS => y_assign (v := I ((0 : Nat) : Int)) rfl) ?_
         refine tly (v := rv153) rfl (y_assign rfl) ?_
         refine p_nil ?_
         refine n_then ?_
         refine wp_ret ?_
         refine e_r4 Try.results97 (rv_b H156 (i := 0) rfl ag48 sz48 rfl s8_81) (rv_t rfl) (rv_t rfl) (rv_t rfl) ?_
         have H161 : St w _ [_, _, _, _] w155 := H156.foc 1 rfl rfl
         have H162 : St w _ [_] w155 := H161.take 1 rfl
         have hsv := says_vals (kind := kind) (key := key) (n := n) (ls := ls)
         have hck : checkA root kind key n (PE ls) = (0, some ((PE ls).getD 0 le0).c) := by
          rw [ck_say (by first | assumption | exact Decidable.not_not.1 (by assumption)) (by omega) (by omega) hal, if_pos (by omega)]
         have hPE : ((PE ls).getD 0 le0).c = (ls.getD 0 lf0).cell.c := by
          match ls, (show 0 < ls.length by omega) with
          | f :: ls', _ => rfl
         rw [hPE] at hck
         rw [hck]
         exact ⟨_, rfl, (ls.getD 0 lf0).cell, _, _, _, _, rfl, rfl, (.inr ⟨by omega, rfl⟩), hO154, fun _ => (show rowsW n (PE ls) = (PE ls).flatMap (leafR n) from if_neg (by omega)).symm, H162⟩

set_option maxRecDepth 20000 in
theorem rcheck_c (root : List UInt8) (kind : Int) (key : List UInt8) (n : Int) (lv : Value) (ls : List Lf) (w : World) (hr : root.length = 32) (hn : n ≤ 9223372036854775807) (hn2 : -9223372036854775808 ≤ n) (hL : LsR [] w lv ls) :
    Calls Try.prog 72 (([.agg (root.map B8).toArray, I (kind), .string (bst key), .agg ([I n, lv]).toArray] : List Value).toArray) w (fun e w' => ∃ v, e = .returned v ∧ ∃ (c' : Cl), v = .tuple #[.agg c'.cs.toArray, .bool (checkA root kind key n (PE ls)).2.isSome, I (((checkA root kind key n (PE ls)).1 : Nat) : Int)] ∧ c'.c = (checkA root kind key n (PE ls)).2.getD cz ∧ ofC c' ls ∧ Below w.heap.size w w') := by
 refine calls_mk Try.func72 rfl 28 Try.ntmps72 rfl ?_
 have H0 : St w [] [] w := St.refl w
 refine c_seq ?_
 refine c_reg ?_
 refine st (ow_box (l := (root).map B8) H0 rfl rfl) ?_
 rintro _ w2 ⟨g1, rfl, H3⟩
 refine st (ow_box (l := [I (n), lv]) H3 rfl rfl) ?_
 rintro _ w5 ⟨g4, rfl, H6⟩
 refine st (ow_alloc (l := [I ((0 : Nat) : Int), .string (.empty), .slice none 0 0]) H6 zr48 rfl) ?_
 rintro _ w8 ⟨g7, rfl, H9⟩
 refine sy (v := .bool (false)) (y_assign (v := .bool (false)) rfl) ?_
 refine sy (v := I ((0 : Nat) : Int)) (y_assign (v := I ((0 : Nat) : Int)) rfl) ?_
 refine c_nil ?_
 refine n_then ?_
 refine c_seq ?_
 refine c_reg ?_
 refine sy (v := .agg (root.map B8).toArray) (y_loadA (us := (root).map B8) ag26 sz26 ((List.length_map _).trans hr) rfl (fun j u hu => (H9.cell 2 rfl (by rw [Nat.zero_add]; exact hu)))) ?_
 refine sy (v := I (kind)) (y_move rfl) ?_
 refine sy (v := .string (bst key)) (y_move rfl) ?_
 refine sy (v := .agg ([I n, lv]).toArray) (y_loadA (us := [I (n), lv]) ag41 sz41 rfl rfl (fun j u hu => (H9.cell 1 rfl (by rw [Nat.zero_add]; exact hu)))) ?_
 refine st (ow_call fn97 rfl (walk_c root kind key n lv ls _ hr hn hn2 (hL.st H9).nil) ⟨rfl, rfl, rfl, rfl, trivial⟩) ?_
 rintro _ w15 ⟨c10, g11, rv12, rows13, EB14, rfl, hc17, hC18', hO19, hW20, H16⟩
 have H21 : St w _ [_, _, _, _] w15 := H9.app H16
 have hC18 : CR [] w c10 := hC18'.cr hL
 refine sy (v := .tuple #[.agg ([I c10.c.k, .string (bst c10.c.key), c10.v]).toArray, .bool ((checkA root kind key n (PE ls)).2.isSome), I (((checkA root kind key n (PE ls)).1 : Nat) : Int), rv12]) (y_move rfl) ?_
 refine sy (v := .agg ([I c10.c.k, .string (bst c10.c.key), c10.v]).toArray) (y_extract (i := 0) rfl rfl) ?_
 refine sy (v := .bool ((checkA root kind key n (PE ls)).2.isSome)) (y_extract (i := 1) rfl rfl) ?_
 refine sy (v := I (((checkA root kind key n (PE ls)).1 : Nat) : Int)) (y_extract (i := 2) rfl rfl) ?_
 refine sy (v := rv12) (y_extract (i := 3) rfl rfl) ?_
 refine st (ow_alloc (l := [I ((0 : Nat) : Int), .string (.empty), .slice none 0 0]) H21 zr48 rfl) ?_
 rintro _ w23 ⟨g22, rfl, H24⟩
 refine s0 (ow_storeW (us := [I (c10.c.k), .string (bst c10.c.key), c10.v]) H24 sz48 rfl rfl rfl (by intro u hu; simp only [List.mem_cons, List.not_mem_nil, or_false] at hu; rcases hu with rfl | rfl | rfl <;> first | rfl | exact Rd.one (hC18.1.st H24)) (by simp [*])) ?_
 rintro _ w25 H26'
 have H26 : St w _ [[(g22, Rw 48 ([I (c10.c.k), .string (bst c10.c.key), c10.v]))], _, _, _, _] w25 := H26'
 refine sy (v := .bool ((checkA root kind key n (PE ls)).2.isSome)) (y_assign rfl) ?_
 refine sy (v := I (((checkA root kind key n (PE ls)).1 : Nat) : Int)) (y_assign rfl) ?_
 refine sy (v := rv12) (y_assign rfl) ?_
 refine c_nil ?_
 refine n_then ?_
 refine c_seq ?_
 refine c_reg ?_
 refine sy (v := .agg ([I c10.c.k, .string (bst c10.c.key), c10.v]).toArray) (y_loadA (us := [I (c10.c.k), .string (bst c10.c.key), c10.v]) ag48 sz48 rfl rfl (fun j u hu => (H26.cell 0 rfl (by rw [Nat.zero_add]; exact hu)))) ?_
 refine sy (v := .bool ((checkA root kind key n (PE ls)).2.isSome)) (y_move rfl) ?_
 refine sy (v := I (((checkA root kind key n (PE ls)).1 : Nat) : Int)) (y_move rfl) ?_
 have H27 : St w _ [_, _, _, _, _] w25 := H26.foc 2 rfl rfl
 refine s0 (ow_storeW (us := [I (c10.c.k), .string (bst c10.c.key), c10.v]) H27 sz48 rfl rfl rfl (by intro u hu; simp only [List.mem_cons, List.not_mem_nil, or_false] at hu; rcases hu with rfl | rfl | rfl <;> first | rfl | exact Rd.one (hC18.1.st H27)) (by simp [*])) ?_
 rintro _ w28 H29'
 have H29 : St w _ [[(g7, Rw 48 ([I (c10.c.k), .string (bst c10.c.key), c10.v]))], _, _, _, _] w28 := H29'
 refine sy (v := .bool ((checkA root kind key n (PE ls)).2.isSome)) (y_assign rfl) ?_
 refine sy (v := I (((checkA root kind key n (PE ls)).1 : Nat) : Int)) (y_assign rfl) ?_
 refine c_nil ?_
 refine n_then ?_
 refine wp_ret ?_
 refine e_r3 Try.results72 (rv_b H29 (i := 0) rfl ag48 sz48 rfl rfl) (rv_t rfl) (rv_t rfl) ?_
 exact ⟨_, rfl, c10, rfl, hc17, hC18', H29.below⟩

end Go.Proofs.Ytdcmbcjkdhdohaa
