/- Walks: path, leafOf. -/
import Derived.Test.YtdcmbcjkdhdohaaRootsF
namespace Go.Proofs.Ytdcmbcjkdhdohaa
open Go Go.RowKit
set_option linter.unusedSimpArgs false
set_option linter.unusedVariables false
attribute [local irreducible] wpList wpP Code.wp

theorem pl_getD {cs : List Cl} {i : Nat} : (PL cs).getD i ⟨0, [], []⟩ = (cs.getD i c0).c := by
  rw [List.getD_eq_getElem?_getD, List.getElem?_map, List.getD_eq_getElem?_getD]
  cases cs[i]? <;> rfl
theorem pathC_takelen (cs : List Cl) (m i : Nat) : (pathOf (PL (cs.take m)) i).length ≤ cs.length := by
  have := pathC_len (cs.take m) i
  rw [List.length_take] at this; omega
theorem pathC_droplen (cs : List Cl) (m i : Nat) : (pathOf (PL (cs.drop m)) i).length ≤ cs.length := by
  have := pathC_len (cs.drop m) i
  rw [List.length_drop] at this; omega
def PathC (cs : List Cl) : Prop := ∀ (v0 : Value) (i : Nat) (w : World), CsR [] w v0 cs → i < cs.length →
  Calls Try.prog 92 (([v0, I ((i : Nat) : Int)] : List Value).toArray) w (fun e w' => ∃ v, e = .returned v ∧ ∃ E, OS 26 32 v (pathOf (PL cs) i).length ((pathOf (PL cs) i).flatten.map B8) E ∧ St w [] [E] w')
def BPathC (cs : List Cl) : Prop := ∀ (g : Nat) (rows : List (List UInt8)) (EB : Part) (v0 : Value) (i : Nat) (w : World), BkP g rows EB → (∀ p ∈ EB, w.heap[p.1]? = some p.2) → CsR (EB.map (·.1)) w v0 cs → i < cs.length → rows.length + 2 * cs.length ≤ 4398046511104 →
  Calls Try.prog 133 (([Ad (bs g) 0, v0, I ((i : Nat) : Int)] : List Value).toArray) w (fun e w' => ∃ v, e = .returned v ∧ ∃ (rows' : List (List UInt8)) (EB' E : Part), BkP g rows' EB' ∧ rows'.length ≤ rows.length + 2 * cs.length ∧ OS 26 32 v (pathOf (PL cs) i).length ((pathOf (PL cs) i).flatten.map B8) E ∧ St w (EB.map (·.1)) [EB', E] w')

attribute [local irreducible] leafH innerH topH rootH rootA sha checkA

theorem path_step (v0 : Value) (cs : List Cl) (i : Nat) (w : World) (hC : CsR [] w v0 cs) (hi : i < cs.length) (IH : ∀ cs' : List Cl, cs'.length < cs.length → PathC cs') :
    Calls Try.prog 92 (([v0, I ((i : Nat) : Int)] : List Value).toArray) w (fun e w' => ∃ v, e = .returned v ∧ ∃ E, OS 26 32 v (pathOf (PL cs) i).length ((pathOf (PL cs) i).flatten.map B8) E ∧ St w [] [E] w') := by
 have hle := hC.le
 have hh2 := half_pos cs.length
 have hpt := pathC_takelen cs (half cs.length) i
 have hpd := pathC_droplen cs (half cs.length) (i - half cs.length)
 refine calls_mk Try.func92 rfl 39 Try.ntmps92 rfl ?_
 have H0 : St w [] [] w := St.refl w
 refine c_seq ?_
 refine c_reg ?_
 refine sy (v := .slice none 0 0) (y_assign (v := .slice none 0 0) rfl) ?_
 refine c_nil ?_
 refine n_then ?_
 refine c_seq ?_
 refine c_seq ?_
 refine c_reg ?_
 refine sy (v := v0) (y_move rfl) ?_
 refine sy (v := I ((cs.length : Nat) : Int)) (y_lenR Try.underlying38 (hC.st H0).rd rfl) ?_
 refine sy (v := .bool (decide (cs.length = 1))) (n_eql (a := cs.length) (b := 1) rfl rfl) ?_
 refine c_nil ?_
 refine n_then ?_
 refine c_if rfl (fun hc1 => ?_) (fun hc1 => ?_)
 ·
  refine c_seq ?_
  refine c_reg ?_
  refine sy (v := .slice none 0 0) (y_assign (v := .slice none 0 0) rfl) ?_
  refine c_nil ?_
  refine n_then ?_
  refine wp_ret ?_
  refine r_then ?_
  refine e_r1 Try.results92 (rv_t rfl) ?_
  rw [pathC_one (cs := cs) (i := i) (by omega)]
  exact ⟨_, rfl, _, OS.nil 26 32, (H0.take 0 rfl).nilp⟩
 ·
  have hh1 := half_lt (n := cs.length) (by omega)
  refine wp_skip ?_
  refine n_then ?_
  refine c_seq ?_
  refine c_reg ?_
  refine sy (v := v0) (y_move rfl) ?_
  refine sy (v := I ((cs.length : Nat) : Int)) (y_lenR Try.underlying38 (hC.st H0).rd rfl) ?_
  refine st (ow_call fn128 rfl (half_c (cs.length) _ (by omega) (by omega)) ⟨rfl, trivial⟩) ?_
  rintro _ w2 ⟨rfl, hB3⟩
  have H4 : St w _ [] w2 := H0.call hB3
  refine sy (v := I ((half cs.length : Nat) : Int)) (y_assign rfl) ?_
  refine c_nil ?_
  refine n_then ?_
  refine c_seq ?_
  refine c_seq ?_
  refine c_reg ?_
  refine sy (v := I ((i : Nat) : Int)) (y_move rfl) ?_
  refine sy (v := I ((half cs.length : Nat) : Int)) (y_move rfl) ?_
  refine sy (v := .bool (decide (i < (half cs.length)))) (n_lss (a := i) (b := half cs.length) rfl rfl) ?_
  refine c_nil ?_
  refine n_then ?_
  refine c_if rfl (fun hc5 => ?_) (fun hc5 => ?_)
  ·
   refine c_seq ?_
   refine drawS (.step 0 0 (.step 0 1 (.step 0 2 (.step 0 3 (.step 0 5 (.step 0 6 (.step 0 7 (.step 1 4 (.step 1 8 (.step 1 9 (.step 1 10 (.step 2 11 .nil)))))))))))) mixed H4 (by kernel_rfl) (by kernel_rfl) (by kernel_rfl) ?_
   intro w6 H7
   refine pt (v := v0) rfl (fun wS HS => y_move rfl) ?_
   refine pt (v := I ((half cs.length : Nat) : Int)) rfl (fun wS HS => y_move rfl) ?_
   refine pt (v := slv 3 0 (half cs.length) v0) rfl (fun wS HS => y_slR (k1 := .i64) (k2 := .i64) (l := 0) (h := half cs.length) Try.underlying38 sz48 (hC.st HS).rd rfl (.inl ⟨rfl, rfl⟩) (.inr ⟨_, rfl, rfl⟩) (by omega) (by omega)) ?_
   refine pt (v := I ((i : Nat) : Int)) rfl (fun wS HS => y_move rfl) ?_
   refine pt (v := v0) rfl (fun wS HS => y_move rfl) ?_
   refine pt (v := I ((half cs.length : Nat) : Int)) rfl (fun wS HS => y_move rfl) ?_
   refine pt (v := slv 3 (half cs.length) cs.length v0) rfl (fun wS HS => y_slR (k1 := .i64) (k2 := .i64) (l := half cs.length) (h := cs.length) Try.underlying38 sz48 (hC.st HS).rd rfl (.inr ⟨_, rfl, rfl⟩) (.inl ⟨rfl, rfl⟩) (by omega) (by omega)) ?_
   refine pl rfl (ow_call fn92 rfl (IH (cs.take (half cs.length)) (by simp only [List.length_take, List.length_drop]; omega) (slv 3 0 (half cs.length) v0) i _ ((hC.pre (m := half cs.length) (by omega)).st H7).nil (by first | omega | (simp only [List.length_take, List.length_drop]; omega))) ⟨rfl, rfl, trivial⟩) ?_
   rintro v8 w10 ⟨E9, ho12, H11⟩
   have H13 : St w _ [_] w10 := H7.app H11
   have H14 : St w _ [] w10 := H13.take 0 rfl
   refine ⟨H14, ?_⟩
   refine pl rfl (ow_call fn120 rfl (tree_c (slv 3 (half cs.length) cs.length v0) (cs.drop (half cs.length)) _ ((hC.suf (m := half cs.length) (by omega)).st H13).nil (by first | omega | (simp only [List.length_take, List.length_drop]; omega))) ⟨rfl, trivial⟩) ?_
   rintro _ w15 ⟨rfl, hB16⟩
   have H17 : St w _ [_] w15 := H13.call hB16
   have H18 : St w _ [] w15 := H17.take 0 rfl
   refine ⟨H18, ?_⟩
   refine pl rfl (ow_lit1 (h := treeH ((cs.drop (half cs.length)).map (fun q : Cl => q.c))) Try.underlying72 sz26 zr26 H17 rfl (treeH_len ((cs.drop (half cs.length)).map (fun q : Cl => q.c)))) ?_
   rintro _ w20 ⟨g19, rfl, H21⟩
   have hh22 : H32 [treeH ((cs.drop (half cs.length)).map (fun q : Cl => q.c))] := hh_one (treeH_len ((cs.drop (half cs.length)).map (fun q : Cl => q.c)))
   have H23 : St w _ [] w20 := H21.take 0 rfl
   refine ⟨H23, ?_⟩
   have H30 : St w _ [_, _] w20 := H21.foc 1 rfl rfl
   refine pl rfl (ow_appH (hs := (pathOf (PL (cs.take (half cs.length))) i)) (ks := [treeH ((cs.drop (half cs.length)).map (fun q : Cl => q.c))]) Try.underlying72 sz26 zr26 bt26 rfl Try.underlying72 ho12 H30 rfl rfl (rd_hblk H30 1 rfl hh22 rfl (by unfold maxLen; omega)) (by first | omega | (simp only [List.length_append, List.length_cons, List.length_nil]; omega))) ?_
   rintro v25 w26 ⟨E24, ho28, H27⟩
   have hh29 : H32 ((pathOf (PL (cs.take (half cs.length))) i) ++ ([treeH ((cs.drop (half cs.length)).map (fun q : Cl => q.c))])) := hh_app (pathC_h32 (cs.take (half cs.length)) i) hh22
   have H31 : St w _ [] w26 := H27.take 0 rfl
   refine ⟨H31, ?_⟩
   refine tly (v := v25) rfl (y_assign rfl) ?_
   refine p_nil ?_
   refine n_then ?_
   refine wp_ret ?_
   refine r_then ?_
   refine e_r1 Try.results92 (rv_t rfl) ?_
   rw [pathC_l (cs := cs) (i := i) (by omega) (by omega)]
   have H32 : St w _ [_] w26 := H27.take 1 rfl
   exact ⟨_, rfl, _, ho28, H32⟩
  ·
   refine wp_skip ?_
   refine n_then ?_
   refine c_seq ?_
   refine drawS (.step 0 0 (.step 0 1 (.step 0 2 (.step 0 3 (.step 0 4 (.step 0 5 (.step 0 7 (.step 0 8 (.step 0 9 (.step 1 6 (.step 1 10 (.step 1 11 (.step 1 12 (.step 2 13 .nil)))))))))))))) mixed H4 (by kernel_rfl) (by kernel_rfl) (by kernel_rfl) ?_
   intro w33 H34
   refine pt (v := v0) rfl (fun wS HS => y_move rfl) ?_
   refine pt (v := I ((half cs.length : Nat) : Int)) rfl (fun wS HS => y_move rfl) ?_
   refine pt (v := slv 3 (half cs.length) cs.length v0) rfl (fun wS HS => y_slR (k1 := .i64) (k2 := .i64) (l := half cs.length) (h := cs.length) Try.underlying38 sz48 (hC.st HS).rd rfl (.inr ⟨_, rfl, rfl⟩) (.inl ⟨rfl, rfl⟩) (by omega) (by omega)) ?_
   refine pt (v := I ((i : Nat) : Int)) rfl (fun wS HS => y_move rfl) ?_
   refine pt (v := I ((half cs.length : Nat) : Int)) rfl (fun wS HS => y_move rfl) ?_
   refine pt (v := I ((i - (half cs.length) : Nat) : Int)) rfl (fun wS HS => n_sub (a := i) (b := half cs.length) rfl rfl (by omega) (by omega)) ?_
   refine pt (v := v0) rfl (fun wS HS => y_move rfl) ?_
   refine pt (v := I ((half cs.length : Nat) : Int)) rfl (fun wS HS => y_move rfl) ?_
   refine pt (v := slv 3 0 (half cs.length) v0) rfl (fun wS HS => y_slR (k1 := .i64) (k2 := .i64) (l := 0) (h := half cs.length) Try.underlying38 sz48 (hC.st HS).rd rfl (.inl ⟨rfl, rfl⟩) (.inr ⟨_, rfl, rfl⟩) (by omega) (by omega)) ?_
   refine pl rfl (ow_call fn92 rfl (IH (cs.drop (half cs.length)) (by simp only [List.length_take, List.length_drop]; omega) (slv 3 (half cs.length) cs.length v0) (i - (half cs.length)) _ ((hC.suf (m := half cs.length) (by omega)).st H34).nil (by first | omega | (simp only [List.length_take, List.length_drop]; omega))) ⟨rfl, rfl, trivial⟩) ?_
   rintro v35 w37 ⟨E36, ho39, H38⟩
   have H40 : St w _ [_] w37 := H34.app H38
   have H41 : St w _ [] w37 := H40.take 0 rfl
   refine ⟨H41, ?_⟩
   refine pl rfl (ow_call fn120 rfl (tree_c (slv 3 0 (half cs.length) v0) (cs.take (half cs.length)) _ ((hC.pre (m := half cs.length) (by omega)).st H40).nil (by first | omega | (simp only [List.length_take, List.length_drop]; omega))) ⟨rfl, trivial⟩) ?_
   rintro _ w42 ⟨rfl, hB43⟩
   have H44 : St w _ [_] w42 := H40.call hB43
   have H45 : St w _ [] w42 := H44.take 0 rfl
   refine ⟨H45, ?_⟩
   refine pl rfl (ow_lit1 (h := treeH ((cs.take (half cs.length)).map (fun q : Cl => q.c))) Try.underlying72 sz26 zr26 H44 rfl (treeH_len ((cs.take (half cs.length)).map (fun q : Cl => q.c)))) ?_
   rintro _ w47 ⟨g46, rfl, H48⟩
   have hh49 : H32 [treeH ((cs.take (half cs.length)).map (fun q : Cl => q.c))] := hh_one (treeH_len ((cs.take (half cs.length)).map (fun q : Cl => q.c)))
   have H50 : St w _ [] w47 := H48.take 0 rfl
   refine ⟨H50, ?_⟩
   have H57 : St w _ [_, _] w47 := H48.foc 1 rfl rfl
   refine pl rfl (ow_appH (hs := (pathOf (PL (cs.drop (half cs.length))) (i - (half cs.length)))) (ks := [treeH ((cs.take (half cs.length)).map (fun q : Cl => q.c))]) Try.underlying72 sz26 zr26 bt26 rfl Try.underlying72 ho39 H57 rfl rfl (rd_hblk H57 1 rfl hh49 rfl (by unfold maxLen; omega)) (by first | omega | (simp only [List.length_append, List.length_cons, List.length_nil]; omega))) ?_
   rintro v52 w53 ⟨E51, ho55, H54⟩
   have hh56 : H32 ((pathOf (PL (cs.drop (half cs.length))) (i - (half cs.length))) ++ ([treeH ((cs.take (half cs.length)).map (fun q : Cl => q.c))])) := hh_app (pathC_h32 (cs.drop (half cs.length)) (i - (half cs.length))) hh49
   have H58 : St w _ [] w53 := H54.take 0 rfl
   refine ⟨H58, ?_⟩
   refine tly (v := v52) rfl (y_assign rfl) ?_
   refine p_nil ?_
   refine n_then ?_
   refine wp_ret ?_
   refine e_r1 Try.results92 (rv_t rfl) ?_
   rw [pathC_r (cs := cs) (i := i) (by omega) (by omega)]
   have H59 : St w _ [_] w53 := H54.take 1 rfl
   exact ⟨_, rfl, _, ho55, H59⟩

theorem path_all : ∀ (m : Nat) (cs : List Cl), cs.length ≤ m → PathC cs
  | 0, cs, h1 => fun v0 i w q1 q2 => by omega
  | m + 1, cs, h1 => fun v0 i w q1 q2 => path_step v0 cs i w q1 q2 (fun cs' r => path_all m cs' (by omega))
theorem path_c (cs : List Cl) : PathC cs := path_all cs.length cs (Nat.le_refl _)

theorem bpath_step (g : Nat) (rows : List (List UInt8)) (EB : Part) (v0 : Value) (cs : List Cl) (i : Nat) (w : World) (hB : BkP g rows EB) (hown : ∀ p ∈ EB, w.heap[p.1]? = some p.2) (hC : CsR (EB.map (·.1)) w v0 cs) (hi : i < cs.length) (IH : ∀ cs' : List Cl, cs'.length < cs.length → BPathC cs') (hrb : rows.length + 2 * cs.length ≤ 4398046511104) :
    Calls Try.prog 133 (([Ad (bs g) (0), v0, I ((i : Nat) : Int)] : List Value).toArray) w (fun e w' => ∃ v, e = .returned v ∧ ∃ (rows' : List (List UInt8)) (EB' E : Part), BkP g rows' EB' ∧ rows'.length ≤ rows.length + 2 * cs.length ∧ OS 26 32 v (pathOf (PL cs) i).length ((pathOf (PL cs) i).flatten.map B8) E ∧ St w (EB.map (·.1)) [EB', E] w') := by
 have hle := hC.le
 have hh2 := half_pos cs.length
 have hpt := pathC_takelen cs (half cs.length) i
 have hpd := pathC_droplen cs (half cs.length) (i - half cs.length)
 have hT1 := rowsC_le (cs.take (half cs.length))
 have hT2 := rowsC_le (cs.drop (half cs.length))
 rw [List.length_take] at hT1
 rw [List.length_drop] at hT2
 refine calls_mk Try.func133 rfl 50 Try.ntmps133 rfl ?_
 have H0 : St w (EB.map (·.1)) [EB] w := St.initE hown
 refine c_seq ?_
 refine c_reg ?_
 refine sy (v := .slice none 0 0) (y_assign (v := .slice none 0 0) rfl) ?_
 refine c_nil ?_
 refine n_then ?_
 refine c_seq ?_
 refine c_seq ?_
 refine c_reg ?_
 refine sy (v := v0) (y_move rfl) ?_
 refine sy (v := I ((cs.length : Nat) : Int)) (y_lenR Try.underlying38 (hC.st H0).rd rfl) ?_
 refine sy (v := .bool (decide (cs.length = 1))) (n_eql (a := cs.length) (b := 1) rfl rfl) ?_
 refine c_nil ?_
 refine n_then ?_
 refine c_if rfl (fun hc1 => ?_) (fun hc1 => ?_)
 ·
  refine c_seq ?_
  refine c_reg ?_
  refine st (ow_lit0 Try.underlying72 sz26 zr26 H0) ?_
  rintro _ w3 ⟨g2, rfl, H4⟩
  refine sy (v := .slice (some (bs g2)) 0 0) (y_assign rfl) ?_
  refine c_nil ?_
  refine n_then ?_
  refine wp_ret ?_
  refine r_then ?_
  refine e_r1 Try.results133 (rv_t rfl) ?_
  rw [pathC_one (cs := cs) (i := i) (by omega)]
  have H6 : St w _ [_, _] w3 := H4.foc 1 rfl rfl
  exact ⟨_, rfl, _, _, _, hB, by first | omega | (simp only [List.length_append]; omega), (os_hb (n := 0) hh_nil rfl (by unfold maxLen; omega)), H6⟩
 ·
  have hh1 := half_lt (n := cs.length) (by omega)
  refine wp_skip ?_
  refine n_then ?_
  refine c_seq ?_
  refine c_reg ?_
  refine sy (v := v0) (y_move rfl) ?_
  refine sy (v := I ((cs.length : Nat) : Int)) (y_lenR Try.underlying38 (hC.st H0).rd rfl) ?_
  refine st (ow_call fn151 rfl (rhalf_c (cs.length) _ (by omega) (by omega)) ⟨rfl, trivial⟩) ?_
  rintro _ w7 ⟨rfl, hB8⟩
  have H9 : St w _ [_] w7 := H0.call hB8
  refine sy (v := I ((half cs.length : Nat) : Int)) (y_assign rfl) ?_
  refine c_nil ?_
  refine n_then ?_
  refine c_seq ?_
  refine c_seq ?_
  refine c_reg ?_
  refine sy (v := I ((i : Nat) : Int)) (y_move rfl) ?_
  refine sy (v := I ((half cs.length : Nat) : Int)) (y_move rfl) ?_
  refine sy (v := .bool (decide (i < (half cs.length)))) (n_lss (a := i) (b := half cs.length) rfl rfl) ?_
  refine c_nil ?_
  refine n_then ?_
  refine c_if rfl (fun hc10 => ?_) (fun hc10 => ?_)
  ·
   refine c_seq ?_
   refine c_reg ?_
   refine sy (v := Ad (bs g) (0)) (y_move rfl) ?_
   refine sy (v := v0) (y_move rfl) ?_
   refine sy (v := I ((half cs.length : Nat) : Int)) (y_move rfl) ?_
   refine sy (v := slv 3 0 (half cs.length) v0) (y_slR (k1 := .i64) (k2 := .i64) (l := 0) (h := half cs.length) Try.underlying38 sz48 (hC.st H9).rd rfl (.inl ⟨rfl, rfl⟩) (.inr ⟨_, rfl, rfl⟩) (by omega) (by omega)) ?_
   refine sy (v := I ((i : Nat) : Int)) (y_move rfl) ?_
   refine st (ow_call fn133 rfl (IH (cs.take (half cs.length)) (by simp only [List.length_take, List.length_drop]; omega) g rows EB (slv 3 0 (half cs.length) v0) i _ hB (fun p hp => H9.own _ List.mem_cons_self p hp) ((hC.pre (m := half cs.length) (by omega)).awayX H9) (by first | omega | (simp only [List.length_take, List.length_drop]; omega)) (by first | omega | (simp only [List.length_take, List.length_drop, List.length_nil]; omega))) ⟨rfl, rfl, rfl, trivial⟩) ?_
   rintro v11 w15 ⟨rows12, EB13, E14, hK17, hr18, ho19, H16⟩
   have H20 : St w _ [_, _] w15 := H9.appE H16
   simp only [List.length_take, List.length_drop] at hr18
   refine sy (v := v11) (y_assign rfl) ?_
   refine c_nil ?_
   refine n_then ?_
   refine c_seq ?_
   refine c_reg ?_
   refine sy (v := v11) (y_move rfl) ?_
   refine sy (v := Ad (bs g) (0)) (y_move rfl) ?_
   refine sy (v := v0) (y_move rfl) ?_
   refine sy (v := I ((half cs.length : Nat) : Int)) (y_move rfl) ?_
   refine sy (v := slv 3 (half cs.length) cs.length v0) (y_slR (k1 := .i64) (k2 := .i64) (l := half cs.length) (h := cs.length) Try.underlying38 sz48 (hC.st H20).rd rfl (.inr ⟨_, rfl, rfl⟩) (.inl ⟨rfl, rfl⟩) (by omega) (by omega)) ?_
   refine st (ow_call fn130 rfl (btree_c g rows12 EB13 (slv 3 (half cs.length) cs.length v0) (cs.drop (half cs.length)) _ hK17 (fun p hp => H20.own _ List.mem_cons_self p hp) ((hC.suf (m := half cs.length) (by omega)).awayX H20) (by first | omega | (simp only [List.length_take, List.length_drop]; omega)) (by first | omega | (simp only [List.length_append, List.length_cons, List.length_nil, List.length_take, List.length_drop]; omega))) ⟨rfl, rfl, trivial⟩) ?_
   rintro _ w22 ⟨rfl, E21, hK24, H23⟩
   have H25 : St w _ [_, _] w22 := H20.appE H23
   refine st (ow_lit1 (h := treeH ((cs.drop (half cs.length)).map (fun q : Cl => q.c))) Try.underlying72 sz26 zr26 H25 rfl (treeH_len ((cs.drop (half cs.length)).map (fun q : Cl => q.c)))) ?_
   rintro _ w27 ⟨g26, rfl, H28⟩
   have hh29 : H32 [treeH ((cs.drop (half cs.length)).map (fun q : Cl => q.c))] := hh_one (treeH_len ((cs.drop (half cs.length)).map (fun q : Cl => q.c)))
   have H36 : St w _ [_, _, _] w27 := H28.foc 2 rfl rfl
   refine st (ow_appH (hs := (pathOf (PL (cs.take (half cs.length))) i)) (ks := [treeH ((cs.drop (half cs.length)).map (fun q : Cl => q.c))]) Try.underlying72 sz26 zr26 bt26 rfl Try.underlying72 ho19 H36 rfl rfl (rd_hblk H36 1 rfl hh29 rfl (by unfold maxLen; omega)) (by first | omega | (simp only [List.length_append, List.length_cons, List.length_nil]; omega))) ?_
   rintro v31 w32 ⟨E30, ho34, H33⟩
   have hh35 : H32 ((pathOf (PL (cs.take (half cs.length))) i) ++ ([treeH ((cs.drop (half cs.length)).map (fun q : Cl => q.c))])) := hh_app (pathC_h32 (cs.take (half cs.length)) i) hh29
   refine sy (v := v31) (y_assign rfl) ?_
   refine c_nil ?_
   refine n_then ?_
   refine wp_ret ?_
   refine r_then ?_
   refine e_r1 Try.results133 (rv_t rfl) ?_
   rw [pathC_l (cs := cs) (i := i) (by omega) (by omega)]
   have H37 : St w _ [_, _, _] w32 := H33.foc 2 rfl rfl
   have H38 : St w _ [_, _] w32 := H37.take 2 rfl
   exact ⟨_, rfl, _, _, _, hK24, by first | omega | (simp only [List.length_append]; omega), ho34, H38⟩
  ·
   refine wp_skip ?_
   refine n_then ?_
   refine c_seq ?_
   refine c_reg ?_
   refine sy (v := Ad (bs g) (0)) (y_move rfl) ?_
   refine sy (v := v0) (y_move rfl) ?_
   refine sy (v := I ((half cs.length : Nat) : Int)) (y_move rfl) ?_
   refine sy (v := slv 3 (half cs.length) cs.length v0) (y_slR (k1 := .i64) (k2 := .i64) (l := half cs.length) (h := cs.length) Try.underlying38 sz48 (hC.st H9).rd rfl (.inr ⟨_, rfl, rfl⟩) (.inl ⟨rfl, rfl⟩) (by omega) (by omega)) ?_
   refine sy (v := I ((i : Nat) : Int)) (y_move rfl) ?_
   refine sy (v := I ((half cs.length : Nat) : Int)) (y_move rfl) ?_
   refine sy (v := I ((i - (half cs.length) : Nat) : Int)) (n_sub (a := i) (b := half cs.length) rfl rfl (by omega) (by omega)) ?_
   refine st (ow_call fn133 rfl (IH (cs.drop (half cs.length)) (by simp only [List.length_take, List.length_drop]; omega) g rows EB (slv 3 (half cs.length) cs.length v0) (i - (half cs.length)) _ hB (fun p hp => H9.own _ List.mem_cons_self p hp) ((hC.suf (m := half cs.length) (by omega)).awayX H9) (by first | omega | (simp only [List.length_take, List.length_drop]; omega)) (by first | omega | (simp only [List.length_take, List.length_drop, List.length_nil]; omega))) ⟨rfl, rfl, rfl, trivial⟩) ?_
   rintro v39 w43 ⟨rows40, EB41, E42, hK45, hr46, ho47, H44⟩
   have H48 : St w _ [_, _] w43 := H9.appE H44
   simp only [List.length_take, List.length_drop] at hr46
   refine sy (v := v39) (y_assign rfl) ?_
   refine c_nil ?_
   refine n_then ?_
   refine c_seq ?_
   refine c_reg ?_
   refine sy (v := v39) (y_move rfl) ?_
   refine sy (v := Ad (bs g) (0)) (y_move rfl) ?_
   refine sy (v := v0) (y_move rfl) ?_
   refine sy (v := I ((half cs.length : Nat) : Int)) (y_move rfl) ?_
   refine sy (v := slv 3 0 (half cs.length) v0) (y_slR (k1 := .i64) (k2 := .i64) (l := 0) (h := half cs.length) Try.underlying38 sz48 (hC.st H48).rd rfl (.inl ⟨rfl, rfl⟩) (.inr ⟨_, rfl, rfl⟩) (by omega) (by omega)) ?_
   refine st (ow_call fn130 rfl (btree_c g rows40 EB41 (slv 3 0 (half cs.length) v0) (cs.take (half cs.length)) _ hK45 (fun p hp => H48.own _ List.mem_cons_self p hp) ((hC.pre (m := half cs.length) (by omega)).awayX H48) (by first | omega | (simp only [List.length_take, List.length_drop]; omega)) (by first | omega | (simp only [List.length_append, List.length_cons, List.length_nil, List.length_take, List.length_drop]; omega))) ⟨rfl, rfl, trivial⟩) ?_
   rintro _ w50 ⟨rfl, E49, hK52, H51⟩
   have H53 : St w _ [_, _] w50 := H48.appE H51
   refine st (ow_lit1 (h := treeH ((cs.take (half cs.length)).map (fun q : Cl => q.c))) Try.underlying72 sz26 zr26 H53 rfl (treeH_len ((cs.take (half cs.length)).map (fun q : Cl => q.c)))) ?_
   rintro _ w55 ⟨g54, rfl, H56⟩
   have hh57 : H32 [treeH ((cs.take (half cs.length)).map (fun q : Cl => q.c))] := hh_one (treeH_len ((cs.take (half cs.length)).map (fun q : Cl => q.c)))
   have H64 : St w _ [_, _, _] w55 := H56.foc 2 rfl rfl
   refine st (ow_appH (hs := (pathOf (PL (cs.drop (half cs.length))) (i - (half cs.length)))) (ks := [treeH ((cs.take (half cs.length)).map (fun q : Cl => q.c))]) Try.underlying72 sz26 zr26 bt26 rfl Try.underlying72 ho47 H64 rfl rfl (rd_hblk H64 1 rfl hh57 rfl (by unfold maxLen; omega)) (by first | omega | (simp only [List.length_append, List.length_cons, List.length_nil]; omega))) ?_
   rintro v59 w60 ⟨E58, ho62, H61⟩
   have hh63 : H32 ((pathOf (PL (cs.drop (half cs.length))) (i - (half cs.length))) ++ ([treeH ((cs.take (half cs.length)).map (fun q : Cl => q.c))])) := hh_app (pathC_h32 (cs.drop (half cs.length)) (i - (half cs.length))) hh57
   refine sy (v := v59) (y_assign rfl) ?_
   refine c_nil ?_
   refine n_then ?_
   refine wp_ret ?_
   refine e_r1 Try.results133 (rv_t rfl) ?_
   rw [pathC_r (cs := cs) (i := i) (by omega) (by omega)]
   have H65 : St w _ [_, _, _] w60 := H61.foc 2 rfl rfl
   have H66 : St w _ [_, _] w60 := H65.take 2 rfl
   exact ⟨_, rfl, _, _, _, hK52, by first | omega | (simp only [List.length_append]; omega), ho62, H66⟩

theorem bpath_all : ∀ (m : Nat) (cs : List Cl), cs.length ≤ m → BPathC cs
  | 0, cs, h1 => fun g rows EB v0 i w q1 q2 q3 q4 => by omega
  | m + 1, cs, h1 => fun g rows EB v0 i w q1 q2 q3 q4 q5 => bpath_step g rows EB v0 cs i w q1 q2 q3 q4 (fun cs' r => bpath_all m cs' (by omega)) q5
theorem bpath_c (cs : List Cl) : BPathC cs := bpath_all cs.length cs (Nat.le_refl _)

theorem leafOf_c (v0 : Value) (cs : List Cl) (i : Nat) (w : World) (hC : CsR [] w v0 cs) (hi : i < cs.length) (hcs : cs.length ≤ 1099511627776) :
    Calls Try.prog 103 (([v0, I ((i : Nat) : Int)] : List Value).toArray) w (fun e w' => ∃ v, e = .returned v ∧ ∃ (f : Lf) (E : Part), v = .agg f.cs.toArray ∧ f.e = leafAt (PL cs) i ∧ LeafP f E ∧ St w [] [E] w') := by
 have hle := hC.le
 have hsm := (hC.at (d := c0) (i := i) hi).2
 have hsm1 := hsm.1
 have hsm2 := hsm.2
 have hplen := pathC_len cs i
 refine calls_mk Try.func103 rfl 24 Try.ntmps103 rfl ?_
 have H0 : St w [] [] w := St.refl w
 refine c_seq ?_
 refine c_reg ?_
 refine st (ow_alloc (l := [I ((0 : Nat) : Int), I ((0 : Nat) : Int), .string (.empty), .slice none 0 0, .slice none 0 0]) H0 zr74 rfl) ?_
 rintro _ w2 ⟨g1, rfl, H3⟩
 refine c_nil ?_
 refine n_then ?_
 refine c_seq ?_
 refine c_reg ?_
 refine sy (v := .agg ([.slice none 0 0]).toArray) (y_build (parts := []) (pv := []) (us := [.slice none 0 0]) trivial (by kernel_rfl)) ?_
 refine st (ow_box (l := [.slice none 0 0]) H3 rfl rfl) ?_
 rintro _ w5 ⟨g4, rfl, H6⟩
 refine sy (v := Ad (bs g4) (0)) (y_assign rfl) ?_
 refine c_nil ?_
 refine n_then ?_
 refine c_seq ?_
 refine c_reg ?_
 refine sy (v := v0) (y_move rfl) ?_
 refine sy (v := I ((i : Nat) : Int)) (y_move rfl) ?_
 refine sy (v := Ad (sp (v0)) (i * 3)) (y_ixR (m := i) Try.underlying38 sz48 (hC.st H6).rd (by decide) rfl rfl rfl (by omega)) ?_
 refine sy (v := .agg ([I ((cs.getD i c0).c.k), .string (bst ((cs.getD i c0).c.key)), (cs.getD i c0).v]).toArray) (y_loadA (us := (cs.getD i c0).cs) ag48 sz48 rfl rfl (fun j u hu => (hC.st H6).rd.cell _ _ (flat3_get (by omega) hu))) ?_
 refine st (ow_alloc (l := [I ((0 : Nat) : Int), .string (.empty), .slice none 0 0]) H6 zr48 rfl) ?_
 rintro _ w8 ⟨g7, rfl, H9⟩
 refine s0 (ow_storeW (us := [I ((cs.getD i c0).c.k), .string (bst ((cs.getD i c0).c.key)), (cs.getD i c0).v]) H9 sz48 rfl rfl rfl (by intro u hu; simp only [List.mem_cons, List.not_mem_nil, or_false] at hu; rcases hu with rfl | rfl | rfl <;> first | rfl | exact Rd.one ((hC.at (d := c0) (i := i) (by omega)).1.st H9)) (by simp [*])) ?_
 rintro _ w10 H11'
 have H11 : St w _ [[(g7, Rw 48 ([I ((cs.getD i c0).c.k), .string (bst ((cs.getD i c0).c.key)), (cs.getD i c0).v]))], _, _] w10 := H11'
 refine c_nil ?_
 refine n_then ?_
 refine c_seq ?_
 refine c_reg ?_
 refine sy (v := Ad (bs g7) (0 + 2)) (y_fld Try.underlying48 rfl rfl sz23 (by decide) rfl) ?_
 refine sy (v := (cs.getD i c0).v) (y_load sc23 rfl (H11.cell 0 rfl rfl)) ?_
 refine st (ow_append Try.underlying23 sz5 zr5 bt5 rfl (OS.nil 5 1) (H11.nilp) rfl rfl (((hC.at (d := c0) (i := i) (by omega)).1.st H11).src Try.underlying23 (map_one (F := B8) (fun _ => rfl) _)) (by first | omega | (simp only [List.length_append, List.length_cons, List.length_nil, List.length_take, List.length_drop, hmac_length, sha_length, List.length_replicate]; omega)) (by first | omega | (simp only [List.length_append, List.length_cons, List.length_nil, List.length_take, List.length_drop, hmac_length, sha_length, List.length_replicate]; omega))) ?_
 rintro v13 w14 ⟨E12, ho16', H15⟩
 have ho16 : OS 5 1 v13 ((cs.getD i c0).c.l).length (((cs.getD i c0).c.l).map B8) E12 := by first | (have h := ho16'; rw [Nat.zero_add, List.nil_append] at h; exact h) | simpa using ho16'
 refine sy (v := Ad (bs g7) (0 + 2)) (y_fld Try.underlying48 rfl rfl sz23 (by decide) rfl) ?_
 have H17 : St w _ [_, _, _, _] w14 := H15.foc 1 rfl rfl
 refine s0 (ow_store (j := 2) H17 sz23 rfl rfl (Rd.one (ho16.rd H17 1 rfl)) rfl (by simp)) ?_
 rintro _ w18 H19'
 have H19 : St w _ [[(g7, Rw 48 ([I ((cs.getD i c0).c.k), .string (bst ((cs.getD i c0).c.key)), v13]))], _, _, _] w18 := H19'
 refine c_nil ?_
 refine n_then ?_
 refine c_seq ?_
 have H20 : St w _ [_, _, _, _] w18 := H19.foc 3 rfl rfl
 have H21 : St w _ [_, _, _, _] w18 := H20.foc 3 rfl rfl
 refine drawSub (.step 0 0 (.step 0 1 (.step 0 2 (.step 0 3 (.step 0 4 (.step 1 5 (.step 0 6 (.step 2 7 .nil)))))))) mixed H21 (fun _ h => h.drop.drop) (by kernel_rfl) (by kernel_rfl) (by kernel_rfl) ?_
 intro w22 H23
 refine pt (v := I ((i : Nat) : Int)) rfl (fun wS HS => y_move rfl) ?_
 refine pt (v := .agg ([I ((cs.getD i c0).c.k), .string (bst ((cs.getD i c0).c.key)), v13]).toArray) rfl (fun wS HS => y_loadA (us := [I ((cs.getD i c0).c.k), .string (bst ((cs.getD i c0).c.key)), v13]) ag48 sz48 rfl rfl (fun j u hu => (HS.cell 0 rfl (by rw [Nat.zero_add]; exact hu)))) ?_
 refine pt (v := Ad (bs g4) (0)) rfl (fun wS HS => y_move rfl) ?_
 refine pt (v := v0) rfl (fun wS HS => y_move rfl) ?_
 refine pt (v := I ((i : Nat) : Int)) rfl (fun wS HS => y_move rfl) ?_
 refine pl rfl (ow_call fn133 rfl (bpath_c cs g4 ([] : List (List UInt8)) [(g4, Rw 120 [.slice none 0 0])] v0 i _ (bk_new g4) (fun p hp => H23.own _ List.mem_cons_self p hp) (hC.awayX H23) (by first | omega | (simp only [List.length_take, List.length_drop]; omega)) (by first | omega | (simp only [List.length_take, List.length_drop, List.length_nil]; omega))) ⟨rfl, rfl, rfl, trivial⟩) ?_
 rintro v24 w28 ⟨rows25, EB26, E27, hK30, hr31, ho32, H29⟩
 have H33 : St w _ [_, _, _, _, _] w28 := H23.appE H29
 have H34 : St w _ [_, _, _, _, _] w28 := H33.foc 4 rfl rfl
 have H35 : St w _ [_, _, _, _, _] w28 := H34.foc 4 rfl rfl
 have H36 : St w _ [_, _] w28 := H35.take 2 rfl
 refine ⟨H36, ?_⟩
 obtain ⟨pa37, pc38, rfl, -⟩ := (ho32.rd H33 1 rfl).shape
 refine pt (v := .agg ([I ((i : Nat) : Int), I ((cs.getD i c0).c.k), .string (bst ((cs.getD i c0).c.key)), v13, (.slice pa37 ((pathOf (PL cs) i).length) pc38)]).toArray) rfl (fun wS HS => y_build (pv := [(0, I ((i : Nat) : Int)), (1, .agg ([I ((cs.getD i c0).c.k), .string (bst ((cs.getD i c0).c.key)), v13]).toArray), (2, (.slice pa37 ((pathOf (PL cs) i).length) pc38))]) (us := [I ((i : Nat) : Int), I ((cs.getD i c0).c.k), .string (bst ((cs.getD i c0).c.key)), v13, (.slice pa37 ((pathOf (PL cs) i).length) pc38)]) ⟨⟨rfl, rfl⟩, ⟨rfl, rfl⟩, ⟨rfl, rfl⟩, trivial⟩ (by kernel_rfl)) ?_
 have H39 : St w _ [_, _, _, _, _] w28 := H33.foc 2 rfl rfl
 refine t0 rfl (ow_storeW (us := [I ((i : Nat) : Int), I ((cs.getD i c0).c.k), .string (bst ((cs.getD i c0).c.key)), v13, (.slice pa37 ((pathOf (PL cs) i).length) pc38)]) H39 sz74 rfl rfl rfl (by intro u hu; simp only [List.mem_cons, List.not_mem_nil, or_false] at hu; rcases hu with rfl | rfl | rfl | rfl | rfl <;> first | rfl | exact Rd.one (ho16.rd H39 4 rfl) | exact Rd.one (ho32.rd H39 2 rfl)) (by simp [*])) ?_
 rintro _ w40 H41'
 have H41 : St w _ [[(g1, Rw 74 ([I ((i : Nat) : Int), I ((cs.getD i c0).c.k), .string (bst ((cs.getD i c0).c.key)), v13, (.slice pa37 ((pathOf (PL cs) i).length) pc38)]))], _, _, _, _] w40 := H41'
 refine p_nil ?_
 refine n_then ?_
 refine wp_ret ?_
 refine e_r1 Try.results103 (rv_b H41 (i := 0) rfl ag74 sz74 rfl rfl) ?_
 have H42 : St w _ [_, _, _, _, _] w40 := H41.foc 4 rfl rfl
 have H43 : St w _ [_, _, _, _, _] w40 := H42.foc 3 rfl rfl
 have H44 : St w _ [_, _] w40 := H43.take 2 rfl
 obtain ⟨H45, hd46⟩ := H44.join
 have hle2 : (⟨(i : Int), ⟨(cs.getD i c0).c, v13⟩, (.slice pa37 ((pathOf (PL cs) i).length) pc38), pathOf (PL cs) i⟩ : Lf).e = leafAt (PL cs) i := by
  unfold leafAt; rw [pl_getD]
 exact ⟨_, rfl, ⟨(i : Int), ⟨(cs.getD i c0).c, v13⟩, (.slice pa37 ((pathOf (PL cs) i).length) pc38), pathOf (PL cs) i⟩, _, rfl, hle2, ⟨_, _, rfl, ho16, ho32, hsm, pathC_h32 cs i, by show (pathOf (PL cs) i).length ≤ _; omega, hd46⟩, H45⟩

end Go.Proofs.Ytdcmbcjkdhdohaa
