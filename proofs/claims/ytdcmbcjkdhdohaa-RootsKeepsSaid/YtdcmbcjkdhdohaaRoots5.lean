/- Walks: tree, root, Root, Ahead, Wrong, SameCell, twice, Meet (pleachref19). -/
import Derived.Test.YtdcmbcjkdhdohaaRoots4
namespace Go.Proofs.Ytdcmbcjkdhdohaa
open Go Go.RowKit
set_option linter.unusedSimpArgs false
set_option linter.unusedVariables false
attribute [local irreducible] wpList wpP Code.wp

def sameC (a b : Ce) : Prop := a.k = b.k ∧ a.key = b.key ∧ a.l = b.l
instance (a b : Ce) : Decidable (sameC a b) := by unfold sameC; infer_instance
theorem cr0 {w : World} : CR [] w c0 := ⟨rd8_nil, by unfold small; simp [c0]⟩
/-- Two unlike rows of one hash. -/
def twiceP (rows : List (List UInt8)) : Prop := ∃ i j, j < i ∧ i < rows.length ∧ sha (rows.getD i []) = sha (rows.getD j []) ∧ rows.getD i [] ≠ rows.getD j []
theorem rows_one {cs : List Cl} (h : cs.length = 1) : [leafB (cs.getD 0 c0).c] = rowsT (cs.map (·.c)) := by
  match cs, h with
  | [c], _ => exact (rowsT_one _).symm
theorem rows_more {cs : List Cl} (h : ¬ cs.length = 1) (h0 : 0 < cs.length) : rowsT ((cs.take (half cs.length)).map (·.c)) ++ rowsT ((cs.drop (half cs.length)).map (·.c)) ++ [innerB (treeH ((cs.take (half cs.length)).map (·.c))) (treeH ((cs.drop (half cs.length)).map (·.c)))] = rowsT (cs.map (·.c)) := by
  rw [rowsT_more (l := cs.map (·.c)) (by rw [List.length_map]; omega), List.length_map, List.map_take, List.map_drop]
theorem rowsC_le (cs : List Cl) : (rowsT (cs.map (·.c))).length ≤ 2 * cs.length := by have := rowsT_le (l := cs.map (·.c)); rwa [List.length_map] at this
theorem rowsR_nil {cs : List Cl} (h : cs.length = 0) : [topB 0 (if 0 = 0 then [] else List.replicate 32 0)] = rowsR (cs.map (·.c)) := by unfold rowsR; rw [if_pos rfl, if_pos (by rw [List.length_map]; exact h)]
theorem rowsR_more {cs : List Cl} (h : ¬ cs.length = 0) : rowsT (cs.map (·.c)) ++ [topB cs.length (if cs.length = 0 then [] else treeH (cs.map (·.c)))] = rowsR (cs.map (·.c)) := by unfold rowsR; rw [if_neg h, if_neg (by rw [List.length_map]; exact h), List.length_map]
def BTree (cs : List Cl) : Prop := ∀ (g : Nat) (rows : List (List UInt8)) (EB : Part) (v0 : Value) (w : World), BkP g rows EB → (∀ p ∈ EB, w.heap[p.1]? = some p.2) → CsR (EB.map (·.1)) w v0 cs → rows.length + 2 * cs.length ≤ 4398046511104 →
  Calls Try.prog 130 (([Ad (bs g) 0, v0] : List Value).toArray) w (fun e w' => ∃ v, e = .returned v ∧ v = .agg ((treeH (cs.map (·.c))).map B8).toArray ∧ ∃ EB', BkP g (rows ++ rowsT (cs.map (·.c))) EB' ∧ St w (EB.map (·.1)) [EB'] w')

attribute [local irreducible] leafH innerH topH rootH rootA sha

theorem btree_step (g : Nat) (rows : List (List UInt8)) (EB : Part) (v0 : Value) (cs : List Cl) (w : World) (hB : BkP g rows EB) (hown : ∀ p ∈ EB, w.heap[p.1]? = some p.2) (hC : CsR (EB.map (·.1)) w v0 cs) (hpos : 0 < cs.length) (IH : ∀ cs' : List Cl, cs'.length < cs.length → 0 < cs'.length → BTree cs') (hrb : rows.length + 2 * cs.length ≤ 4398046511104) :
    Calls Try.prog 130 (([Ad (bs g) (0), v0] : List Value).toArray) w (fun e w' => ∃ v, e = .returned v ∧ v = .agg ((treeH (cs.map (·.c))).map B8).toArray ∧ ∃ EB', BkP g (rows ++ rowsT (cs.map (·.c))) EB' ∧ St w (EB.map (·.1)) [EB'] w') := by
 have hle := hC.le
 have hh2 := half_pos cs.length
 refine calls_mk Try.func130 rfl 33 Try.ntmps130 rfl ?_
 have H0 : St w (EB.map (·.1)) [EB] w := St.initE hown
 refine c_seq ?_
 refine c_reg ?_
 refine st (ow_alloc (l := (List.replicate 32 0).map B8) H0 zr26 (by simp [Value.cells])) ?_
 rintro _ w2 ⟨g1, rfl, H3⟩
 refine c_nil ?_
 refine n_then ?_
 refine c_seq ?_
 refine c_seq ?_
 refine c_reg ?_
 refine sy (v := v0) (y_move rfl) ?_
 refine sy (v := I ((cs.length : Nat) : Int)) (y_lenR Try.underlying38 (hC.st H3).rd rfl) ?_
 refine sy (v := .bool (decide (cs.length = 1))) (n_eql (a := cs.length) (b := 1) rfl rfl) ?_
 refine c_nil ?_
 refine n_then ?_
 refine c_if rfl (fun hc4 => ?_) (fun hc4 => ?_)
 ·
  refine c_seq ?_
  refine c_reg ?_
  refine sy (v := Ad (bs g) (0)) (y_move rfl) ?_
  refine sy (v := v0) (y_move rfl) ?_
  refine sy (v := Ad (sp (v0)) (0 * 3)) (y_ixR (m := 0) Try.underlying38 sz48 (hC.st H3).rd (by decide) rfl rfl rfl (by omega)) ?_
  refine sy (v := .agg ([I ((cs.getD 0 c0).c.k), .string (bst ((cs.getD 0 c0).c.key)), (cs.getD 0 c0).v]).toArray) (y_loadA (us := (cs.getD 0 c0).cs) ag48 sz48 rfl rfl (fun j u hu => (hC.st H3).rd.cell _ _ (flat3_get (by omega) hu))) ?_
  have H5 : St w _ [_, _] w2 := H3.foc 1 rfl rfl
  refine st (ow_call fn150 rfl (bleaf_c g rows EB (cs.getD 0 c0) _ hB (fun p hp => H5.own _ List.mem_cons_self p hp) (CR.awayX (hC.at (d := c0) (i := 0) (by omega)) H5) (by first | omega | (simp only [List.length_append, List.length_cons, List.length_nil, List.length_take, List.length_drop]; omega))) ⟨rfl, rfl, trivial⟩) ?_
  rintro _ w7 ⟨rfl, E6, hK9, H8⟩
  have H10 : St w _ [_, _] w7 := H5.appE H8
  have H11 : St w _ [_, _] w7 := H10.foc 1 rfl rfl
  refine s0 (ow_storeW (us := (leafH (cs.getD 0 c0).c).map B8) H11 sz26 ((List.length_map _).trans (leafH_len (cs.getD 0 c0).c)) rfl rfl (map_one (F := B8) (fun _ => rfl) _) ((List.length_map _).trans List.length_replicate)) ?_
  rintro _ w12 H13'
  have H13 : St w _ [[(g1, Rw 26 ((leafH (cs.getD 0 c0).c).map B8))], _] w12 := H13'
  refine c_nil ?_
  refine n_then ?_
  refine wp_ret ?_
  refine r_then ?_
  refine e_r1 Try.results130 (rv_b H13 (i := 0) rfl ag26 sz26 ((List.length_map _).trans (leafH_len (cs.getD 0 c0).c)) rfl) ?_
  have H14 : St w _ [_, _] w12 := H13.foc 1 rfl rfl
  have H15 : St w _ [_] w12 := H14.take 1 rfl
  have hv : treeH (cs.map (·.c)) = leafH (cs.getD 0 c0).c := tree_one (by omega)
  have hr : rows ++ [leafB (cs.getD 0 c0).c] = rows ++ rowsT (cs.map (·.c)) := by rw [rows_one (by omega)]
  have hk : BkP g (rows ++ [leafB (cs.getD 0 c0).c]) E6 := hK9
  rw [hr] at hk
  exact ⟨_, rfl, congrArg (fun q : List UInt8 => Value.agg (q.map B8).toArray) hv.symm, _, hk, H15⟩
 ·
  have hh1 := half_lt (n := cs.length) (by omega)
  have hT1 := rowsC_le (cs.take (half cs.length))
  have hT2 := rowsC_le (cs.drop (half cs.length))
  rw [List.length_take] at hT1
  rw [List.length_drop] at hT2
  refine wp_skip ?_
  refine n_then ?_
  refine c_seq ?_
  refine c_reg ?_
  refine sy (v := v0) (y_move rfl) ?_
  refine sy (v := I ((cs.length : Nat) : Int)) (y_lenR Try.underlying38 (hC.st H3).rd rfl) ?_
  refine st (ow_call fn151 rfl (rhalf_c (cs.length) _ (by omega) (by omega)) ⟨rfl, trivial⟩) ?_
  rintro _ w16 ⟨rfl, hB17⟩
  have H18 : St w _ [_, _] w16 := H3.call hB17
  refine sy (v := I ((half cs.length : Nat) : Int)) (y_assign rfl) ?_
  refine c_nil ?_
  refine n_then ?_
  refine c_seq ?_
  refine c_reg ?_
  refine sy (v := Ad (bs g) (0)) (y_move rfl) ?_
  refine sy (v := v0) (y_move rfl) ?_
  refine sy (v := I ((half cs.length : Nat) : Int)) (y_move rfl) ?_
  refine sy (v := slv 3 0 (half cs.length) v0) (y_slR (k1 := .i64) (k2 := .i64) (l := 0) (h := half cs.length) Try.underlying38 sz48 (hC.st H18).rd rfl (.inl ⟨rfl, rfl⟩) (.inr ⟨_, rfl, rfl⟩) (by omega) (by omega)) ?_
  have H19 : St w _ [_, _] w16 := H18.foc 1 rfl rfl
  refine st (ow_call fn130 rfl (IH (cs.take (half cs.length)) (by simp only [List.length_take, List.length_drop]; omega) (by simp only [List.length_take, List.length_drop]; omega) g rows EB (slv 3 0 (half cs.length) v0) _ hB (fun p hp => H19.own _ List.mem_cons_self p hp) ((hC.pre (m := half cs.length) (by omega)).awayX H19) (by first | omega | (simp only [List.length_append, List.length_cons, List.length_nil, List.length_take, List.length_drop]; omega))) ⟨rfl, rfl, trivial⟩) ?_
  rintro _ w21 ⟨rfl, E20, hK23, H22⟩
  have H24 : St w _ [_, _] w21 := H19.appE H22
  refine st (ow_alloc (l := (List.replicate 32 0).map B8) H24 zr26 (by simp [Value.cells])) ?_
  rintro _ w26 ⟨g25, rfl, H27⟩
  refine s0 (ow_storeW (us := (treeH ((cs.take (half cs.length)).map (fun q : Cl => q.c))).map B8) H27 sz26 ((List.length_map _).trans (treeH_len ((cs.take (half cs.length)).map (fun q : Cl => q.c)))) rfl rfl (map_one (F := B8) (fun _ => rfl) _) ((List.length_map _).trans List.length_replicate)) ?_
  rintro _ w28 H29'
  have H29 : St w _ [[(g25, Rw 26 ((treeH ((cs.take (half cs.length)).map (fun q : Cl => q.c))).map B8))], _, _] w28 := H29'
  refine c_nil ?_
  refine n_then ?_
  refine c_seq ?_
  refine c_reg ?_
  refine sy (v := Ad (bs g) (0)) (y_move rfl) ?_
  refine sy (v := v0) (y_move rfl) ?_
  refine sy (v := I ((half cs.length : Nat) : Int)) (y_move rfl) ?_
  refine sy (v := slv 3 (half cs.length) cs.length v0) (y_slR (k1 := .i64) (k2 := .i64) (l := half cs.length) (h := cs.length) Try.underlying38 sz48 (hC.st H29).rd rfl (.inr ⟨_, rfl, rfl⟩) (.inl ⟨rfl, rfl⟩) (by omega) (by omega)) ?_
  have H30 : St w _ [_, _, _] w28 := H29.foc 1 rfl rfl
  refine st (ow_call fn130 rfl (IH (cs.drop (half cs.length)) (by simp only [List.length_take, List.length_drop]; omega) (by simp only [List.length_take, List.length_drop]; omega) g (rows ++ rowsT ((cs.take (half cs.length)).map (fun q : Cl => q.c))) E20 (slv 3 (half cs.length) cs.length v0) _ hK23 (fun p hp => H30.own _ List.mem_cons_self p hp) ((hC.suf (m := half cs.length) (by omega)).awayX H30) (by first | omega | (simp only [List.length_append, List.length_cons, List.length_nil, List.length_take, List.length_drop]; omega))) ⟨rfl, rfl, trivial⟩) ?_
  rintro _ w32 ⟨rfl, E31, hK34, H33⟩
  have H35 : St w _ [_, _, _] w32 := H30.appE H33
  refine st (ow_alloc (l := (List.replicate 32 0).map B8) H35 zr26 (by simp [Value.cells])) ?_
  rintro _ w37 ⟨g36, rfl, H38⟩
  refine s0 (ow_storeW (us := (treeH ((cs.drop (half cs.length)).map (fun q : Cl => q.c))).map B8) H38 sz26 ((List.length_map _).trans (treeH_len ((cs.drop (half cs.length)).map (fun q : Cl => q.c)))) rfl rfl (map_one (F := B8) (fun _ => rfl) _) ((List.length_map _).trans List.length_replicate)) ?_
  rintro _ w39 H40'
  have H40 : St w _ [[(g36, Rw 26 ((treeH ((cs.drop (half cs.length)).map (fun q : Cl => q.c))).map B8))], _, _, _] w39 := H40'
  refine c_nil ?_
  refine n_then ?_
  refine c_seq ?_
  refine c_reg ?_
  refine sy (v := Ad (bs g) (0)) (y_move rfl) ?_
  refine sy (v := .agg ((treeH ((cs.take (half cs.length)).map (fun q : Cl => q.c))).map B8).toArray) (y_loadA (us := (treeH ((cs.take (half cs.length)).map (fun q : Cl => q.c))).map B8) ag26 sz26 ((List.length_map _).trans (treeH_len ((cs.take (half cs.length)).map (fun q : Cl => q.c)))) rfl (fun j u hu => (H40.cell 2 rfl (by rw [Nat.zero_add]; exact hu)))) ?_
  refine sy (v := .agg ((treeH ((cs.drop (half cs.length)).map (fun q : Cl => q.c))).map B8).toArray) (y_loadA (us := (treeH ((cs.drop (half cs.length)).map (fun q : Cl => q.c))).map B8) ag26 sz26 ((List.length_map _).trans (treeH_len ((cs.drop (half cs.length)).map (fun q : Cl => q.c)))) rfl (fun j u hu => (H40.cell 0 rfl (by rw [Nat.zero_add]; exact hu)))) ?_
  have H41 : St w _ [_, _, _, _] w39 := H40.foc 1 rfl rfl
  refine st (ow_call fn152 rfl (binner_c g ((rows ++ rowsT ((cs.take (half cs.length)).map (fun q : Cl => q.c))) ++ rowsT ((cs.drop (half cs.length)).map (fun q : Cl => q.c))) E31 (treeH ((cs.take (half cs.length)).map (fun q : Cl => q.c))) (treeH ((cs.drop (half cs.length)).map (fun q : Cl => q.c))) _ hK34 (fun p hp => H41.own _ List.mem_cons_self p hp) (treeH_len ((cs.take (half cs.length)).map (fun q : Cl => q.c))) (treeH_len ((cs.drop (half cs.length)).map (fun q : Cl => q.c))) (by first | omega | (simp only [List.length_append, List.length_cons, List.length_nil, List.length_take, List.length_drop]; omega))) ⟨rfl, rfl, rfl, trivial⟩) ?_
  rintro _ w43 ⟨rfl, E42, hK45, H44⟩
  have H46 : St w _ [_, _, _, _] w43 := H41.appE H44
  have H47 : St w _ [_, _, _, _] w43 := H46.foc 3 rfl rfl
  refine s0 (ow_storeW (us := (innerH (treeH ((cs.take (half cs.length)).map (fun q : Cl => q.c))) (treeH ((cs.drop (half cs.length)).map (fun q : Cl => q.c)))).map B8) H47 sz26 ((List.length_map _).trans (innerH_len (treeH ((cs.take (half cs.length)).map (fun q : Cl => q.c))) (treeH ((cs.drop (half cs.length)).map (fun q : Cl => q.c))))) rfl rfl (map_one (F := B8) (fun _ => rfl) _) ((List.length_map _).trans List.length_replicate)) ?_
  rintro _ w48 H49'
  have H49 : St w _ [[(g1, Rw 26 ((innerH (treeH ((cs.take (half cs.length)).map (fun q : Cl => q.c))) (treeH ((cs.drop (half cs.length)).map (fun q : Cl => q.c)))).map B8))], _, _, _] w48 := H49'
  refine c_nil ?_
  refine n_then ?_
  refine wp_ret ?_
  refine e_r1 Try.results130 (rv_b H49 (i := 0) rfl ag26 sz26 ((List.length_map _).trans (innerH_len (treeH ((cs.take (half cs.length)).map (fun q : Cl => q.c))) (treeH ((cs.drop (half cs.length)).map (fun q : Cl => q.c))))) rfl) ?_
  have H50 : St w _ [_, _, _, _] w48 := H49.foc 1 rfl rfl
  have H51 : St w _ [_] w48 := H50.take 1 rfl
  have hv : treeH (cs.map (·.c)) = innerH (treeH ((cs.take (half cs.length)).map (·.c))) (treeH ((cs.drop (half cs.length)).map (·.c))) := tree_more (by omega) hpos
  have hr : ((rows ++ rowsT ((cs.take (half cs.length)).map (·.c))) ++ rowsT ((cs.drop (half cs.length)).map (·.c))) ++ [innerB (treeH ((cs.take (half cs.length)).map (·.c))) (treeH ((cs.drop (half cs.length)).map (·.c)))] = rows ++ rowsT (cs.map (·.c)) := by rw [← rows_more (by omega) hpos, List.append_assoc, List.append_assoc, List.append_assoc]
  have hk : BkP g (((rows ++ rowsT ((cs.take (half cs.length)).map (·.c))) ++ rowsT ((cs.drop (half cs.length)).map (·.c))) ++ [innerB (treeH ((cs.take (half cs.length)).map (·.c))) (treeH ((cs.drop (half cs.length)).map (·.c)))]) E42 := hK45
  rw [hr] at hk
  exact ⟨_, rfl, congrArg (fun q : List UInt8 => Value.agg (q.map B8).toArray) hv.symm, _, hk, H51⟩

theorem btree_all : ∀ (m : Nat) (cs : List Cl), cs.length ≤ m → 0 < cs.length → BTree cs
  | 0, cs, h1, h2 => by omega
  | m + 1, cs, h1, h2 => fun g rows EB v0 w q1 q2 q3 q4 => btree_step g rows EB v0 cs w q1 q2 q3 h2 (fun cs' r1 r2 => btree_all m cs' (by omega) r2) q4
theorem btree_c (g : Nat) (rows : List (List UInt8)) (EB : Part) (v0 : Value) (cs : List Cl) (w : World) (hB : BkP g rows EB) (hown : ∀ p ∈ EB, w.heap[p.1]? = some p.2) (hC : CsR (EB.map (·.1)) w v0 cs) (hpos : 0 < cs.length) (hrb : rows.length + 2 * cs.length ≤ 4398046511104) :
    Calls Try.prog 130 (([Ad (bs g) 0, v0] : List Value).toArray) w (fun e w' => ∃ v, e = .returned v ∧ v = .agg ((treeH (cs.map (·.c))).map B8).toArray ∧ ∃ EB', BkP g (rows ++ rowsT (cs.map (·.c))) EB' ∧ St w (EB.map (·.1)) [EB'] w') :=
  btree_all cs.length cs (Nat.le_refl _) hpos g rows EB v0 w hB hown hC hrb

theorem broot_c (g : Nat) (rows : List (List UInt8)) (EB : Part) (v0 : Value) (cs : List Cl) (w : World) (hB : BkP g rows EB) (hown : ∀ p ∈ EB, w.heap[p.1]? = some p.2) (hC : CsR (EB.map (·.1)) w v0 cs) (hrb : rows.length + 2 * cs.length ≤ 4398046511000) :
    Calls Try.prog 96 (([Ad (bs g) (0), v0] : List Value).toArray) w (fun e w' => ∃ v, e = .returned v ∧ v = .agg ((rootH (cs.map (·.c))).map B8).toArray ∧ ∃ EB', BkP g (rows ++ rowsR (cs.map (·.c))) EB' ∧ St w (EB.map (·.1)) [EB'] w') := by
 have hle := hC.le
 have hT1 := rowsC_le cs
 have htl := treeH_len (cs.map (·.c))
 refine calls_mk Try.func96 rfl 20 Try.ntmps96 rfl ?_
 have H0 : St w (EB.map (·.1)) [EB] w := St.initE hown
 refine c_seq ?_
 refine c_reg ?_
 refine st (ow_alloc (l := (List.replicate 32 0).map B8) H0 zr26 (by simp [Value.cells])) ?_
 rintro _ w2 ⟨g1, rfl, H3⟩
 refine c_nil ?_
 refine n_then ?_
 refine c_seq ?_
 refine c_seq ?_
 refine c_reg ?_
 refine sy (v := v0) (y_move rfl) ?_
 refine sy (v := I ((cs.length : Nat) : Int)) (y_lenR Try.underlying38 (hC.st H3).rd rfl) ?_
 refine sy (v := .bool (decide (cs.length = 0))) (n_eql (a := cs.length) (b := 0) rfl rfl) ?_
 refine c_nil ?_
 refine n_then ?_
 refine c_if rfl (fun hc4 => ?_) (fun hc4 => ?_)
 ·
  refine c_seq ?_
  refine c_reg ?_
  refine sy (v := Ad (bs g) (0)) (y_move rfl) ?_
  refine sy (v := .agg (([0, 0, 0, 0, 0, 0, 0, 0, 0, 0, 0, 0, 0, 0, 0, 0, 0, 0, 0, 0, 0, 0, 0, 0, 0, 0, 0, 0, 0, 0, 0, 0]).map B8).toArray) (y_build (parts := []) (pv := []) (us := ([0, 0, 0, 0, 0, 0, 0, 0, 0, 0, 0, 0, 0, 0, 0, 0, 0, 0, 0, 0, 0, 0, 0, 0, 0, 0, 0, 0, 0, 0, 0, 0]).map B8) trivial (by kernel_rfl)) ?_
  have H5 : St w _ [_, _] w2 := H3.foc 1 rfl rfl
  refine st (ow_call fn129 rfl (btop_c g rows EB 0 ([0, 0, 0, 0, 0, 0, 0, 0, 0, 0, 0, 0, 0, 0, 0, 0, 0, 0, 0, 0, 0, 0, 0, 0, 0, 0, 0, 0, 0, 0, 0, 0]) _ hB (fun p hp => H5.own _ List.mem_cons_self p hp) (by simp [*]) (by omega) (by first | omega | (simp only [List.length_append, List.length_cons, List.length_nil, List.length_take, List.length_drop]; omega))) ⟨rfl, rfl, rfl, trivial⟩) ?_
  rintro _ w7 ⟨rfl, E6, hK9, H8⟩
  have H10 : St w _ [_, _] w7 := H5.appE H8
  have H11 : St w _ [_, _] w7 := H10.foc 1 rfl rfl
  refine s0 (ow_storeW (us := (topH 0 (if 0 = 0 then [] else ([0, 0, 0, 0, 0, 0, 0, 0, 0, 0, 0, 0, 0, 0, 0, 0, 0, 0, 0, 0, 0, 0, 0, 0, 0, 0, 0, 0, 0, 0, 0, 0]))).map B8) H11 sz26 ((List.length_map _).trans (topH_len 0 (if 0 = 0 then [] else ([0, 0, 0, 0, 0, 0, 0, 0, 0, 0, 0, 0, 0, 0, 0, 0, 0, 0, 0, 0, 0, 0, 0, 0, 0, 0, 0, 0, 0, 0, 0, 0])))) rfl rfl (map_one (F := B8) (fun _ => rfl) _) ((List.length_map _).trans List.length_replicate)) ?_
  rintro _ w12 H13'
  have H13 : St w _ [[(g1, Rw 26 ((topH 0 (if 0 = 0 then [] else ([0, 0, 0, 0, 0, 0, 0, 0, 0, 0, 0, 0, 0, 0, 0, 0, 0, 0, 0, 0, 0, 0, 0, 0, 0, 0, 0, 0, 0, 0, 0, 0]))).map B8))], _] w12 := H13'
  refine c_nil ?_
  refine n_then ?_
  refine wp_ret ?_
  refine r_then ?_
  refine e_r1 Try.results96 (rv_b H13 (i := 0) rfl ag26 sz26 ((List.length_map _).trans (topH_len 0 (if 0 = 0 then [] else ([0, 0, 0, 0, 0, 0, 0, 0, 0, 0, 0, 0, 0, 0, 0, 0, 0, 0, 0, 0, 0, 0, 0, 0, 0, 0, 0, 0, 0, 0, 0, 0])))) rfl) ?_
  have H14 : St w _ [_, _] w12 := H13.foc 1 rfl rfl
  have H15 : St w _ [_] w12 := H14.take 1 rfl
  have hv : rootH (cs.map (·.c)) = topH 0 (if 0 = 0 then [] else List.replicate 32 0) := by rw [if_pos rfl]; exact root_nil (by omega)
  have hr : rows ++ [topB 0 (if 0 = 0 then [] else List.replicate 32 0)] = rows ++ rowsR (cs.map (·.c)) := by rw [rowsR_nil (by omega)]
  have hk : BkP g (rows ++ [topB 0 (if 0 = 0 then [] else List.replicate 32 0)]) E6 := hK9
  rw [hr] at hk
  exact ⟨_, rfl, congrArg (fun q : List UInt8 => Value.agg (q.map B8).toArray) hv.symm, _, hk, H15⟩
 ·
  refine wp_skip ?_
  refine n_then ?_
  refine c_seq ?_
  refine c_reg ?_
  refine sy (v := Ad (bs g) (0)) (y_move rfl) ?_
  refine sy (v := v0) (y_move rfl) ?_
  have H16 : St w _ [_, _] w2 := H3.foc 1 rfl rfl
  refine st (ow_call fn130 rfl (btree_c g rows EB v0 cs _ hB (fun p hp => H16.own _ List.mem_cons_self p hp) (hC.awayX H16) (by first | omega | (simp only [List.length_take, List.length_drop]; omega)) (by first | omega | (simp only [List.length_append, List.length_cons, List.length_nil, List.length_take, List.length_drop]; omega))) ⟨rfl, rfl, trivial⟩) ?_
  rintro _ w18 ⟨rfl, E17, hK20, H19⟩
  have H21 : St w _ [_, _] w18 := H16.appE H19
  refine st (ow_alloc (l := (List.replicate 32 0).map B8) H21 zr26 (by simp [Value.cells])) ?_
  rintro _ w23 ⟨g22, rfl, H24⟩
  refine s0 (ow_storeW (us := (treeH (cs.map (fun q : Cl => q.c))).map B8) H24 sz26 ((List.length_map _).trans (treeH_len (cs.map (fun q : Cl => q.c)))) rfl rfl (map_one (F := B8) (fun _ => rfl) _) ((List.length_map _).trans List.length_replicate)) ?_
  rintro _ w25 H26'
  have H26 : St w _ [[(g22, Rw 26 ((treeH (cs.map (fun q : Cl => q.c))).map B8))], _, _] w25 := H26'
  refine c_nil ?_
  refine n_then ?_
  refine c_seq ?_
  refine c_reg ?_
  refine sy (v := Ad (bs g) (0)) (y_move rfl) ?_
  refine sy (v := v0) (y_move rfl) ?_
  refine sy (v := I ((cs.length : Nat) : Int)) (y_lenR Try.underlying38 (hC.st H26).rd rfl) ?_
  refine sy (v := .agg ((treeH (cs.map (fun q : Cl => q.c))).map B8).toArray) (y_loadA (us := (treeH (cs.map (fun q : Cl => q.c))).map B8) ag26 sz26 ((List.length_map _).trans (treeH_len (cs.map (fun q : Cl => q.c)))) rfl (fun j u hu => (H26.cell 0 rfl (by rw [Nat.zero_add]; exact hu)))) ?_
  have H27 : St w _ [_, _, _] w25 := H26.foc 1 rfl rfl
  refine st (ow_call fn129 rfl (btop_c g (rows ++ (rowsT (cs.map (fun q : Cl => q.c)))) E17 cs.length (treeH (cs.map (fun q : Cl => q.c))) _ hK20 (fun p hp => H27.own _ List.mem_cons_self p hp) (treeH_len (cs.map (fun q : Cl => q.c))) (by omega) (by first | omega | (simp only [List.length_append, List.length_cons, List.length_nil, List.length_take, List.length_drop]; omega))) ⟨rfl, rfl, rfl, trivial⟩) ?_
  rintro _ w29 ⟨rfl, E28, hK31, H30⟩
  have H32 : St w _ [_, _, _] w29 := H27.appE H30
  have H33 : St w _ [_, _, _] w29 := H32.foc 2 rfl rfl
  refine s0 (ow_storeW (us := (topH cs.length (if cs.length = 0 then [] else (treeH (cs.map (fun q : Cl => q.c))))).map B8) H33 sz26 ((List.length_map _).trans (topH_len cs.length (if cs.length = 0 then [] else (treeH (cs.map (fun q : Cl => q.c)))))) rfl rfl (map_one (F := B8) (fun _ => rfl) _) ((List.length_map _).trans List.length_replicate)) ?_
  rintro _ w34 H35'
  have H35 : St w _ [[(g1, Rw 26 ((topH cs.length (if cs.length = 0 then [] else (treeH (cs.map (fun q : Cl => q.c))))).map B8))], _, _] w34 := H35'
  refine c_nil ?_
  refine n_then ?_
  refine wp_ret ?_
  refine e_r1 Try.results96 (rv_b H35 (i := 0) rfl ag26 sz26 ((List.length_map _).trans (topH_len cs.length (if cs.length = 0 then [] else (treeH (cs.map (fun q : Cl => q.c)))))) rfl) ?_
  have H36 : St w _ [_, _, _] w34 := H35.foc 1 rfl rfl
  have H37 : St w _ [_] w34 := H36.take 1 rfl
  have hv : rootH (cs.map (·.c)) = topH cs.length (if cs.length = 0 then [] else treeH (cs.map (·.c))) := by rw [if_neg (by omega)]; exact root_more (by omega)
  have hr : (rows ++ rowsT (cs.map (·.c))) ++ [topB cs.length (if cs.length = 0 then [] else treeH (cs.map (·.c)))] = rows ++ rowsR (cs.map (·.c)) := by rw [← rowsR_more (by omega), List.append_assoc]
  have hk : BkP g ((rows ++ rowsT (cs.map (·.c))) ++ [topB cs.length (if cs.length = 0 then [] else treeH (cs.map (·.c)))]) E28 := hK31
  rw [hr] at hk
  exact ⟨_, rfl, congrArg (fun q : List UInt8 => Value.agg (q.map B8).toArray) hv.symm, _, hk, H37⟩

theorem ahead_c (k : Int) (key : List UInt8) (k2 : Int) (key2 : List UInt8) (w : World) :
    Calls Try.prog 84 (([I (k), .string (bst key), I (k2), .string (bst key2)] : List Value).toArray) w (fun e w' => ∃ v, e = .returned v ∧ v = .bool (decide (ahead k key k2 key2)) ∧ Below w.heap.size w w') := by
 refine calls_mk Try.func84 rfl 22 Try.ntmps84 rfl ?_
 have H0 : St w [] [] w := St.refl w
 refine c_seq ?_
 refine c_reg ?_
 refine sy (v := .bool (false)) (y_assign (v := .bool (false)) rfl) ?_
 refine c_nil ?_
 refine n_then ?_
 refine c_seq ?_
 refine c_reg ?_
 refine sy (v := I (k)) (y_move rfl) ?_
 refine sy (v := I (k2)) (y_move rfl) ?_
 refine sy (v := .bool (decide (k < k2))) (y_lss (i := k) (j := k2) rfl rfl) ?_
 refine sy (v := .bool (decide (k < k2))) (y_move rfl) ?_
 by_cases hp1 : k < k2
 ·
  refine gno (gv_of (t := 12) rfl rfl rfl) (decide_eq_true hp1) ?_
  refine gno (gv_of (t := 12) rfl rfl rfl) (decide_eq_true hp1) ?_
  refine gno (gv_of (t := 12) rfl rfl rfl) (decide_eq_true hp1) ?_
  refine gno (gv_of (t := 12) rfl rfl rfl) (decide_eq_true hp1) ?_
  refine gun (gv_of (t := 16) rfl rfl rfl) ?_
  refine gun (gv_of (t := 16) rfl rfl rfl) ?_
  refine gun (gv_of (t := 16) rfl rfl rfl) ?_
  refine gno (gv_of (t := 12) rfl rfl rfl) (decide_eq_true hp1) ?_
  refine sy (v := .bool (true)) (y_pickT (v := .bool (true)) rfl (decide_eq_true hp1) rfl) ?_
  refine sy (v := .bool (true)) (y_assign rfl) ?_
  refine c_nil ?_
  refine n_then ?_
  refine wp_ret ?_
  refine e_r1 Try.results84 (rv_t rfl) ?_
  refine ⟨_, rfl, congrArg Value.bool ?_, H0.below⟩
  symm; first | exact decide_eq_true (.inl (by assumption)) | (apply decide_eq_false; rintro (h | ⟨h, -⟩) <;> contradiction)
 ·
  refine gsy (v := I (k)) (gv_of (t := 12) rfl rfl rfl) (decide_eq_false hp1) (y_move rfl) ?_
  refine gsy (v := I (k2)) (gv_of (t := 12) rfl rfl rfl) (decide_eq_false hp1) (y_move rfl) ?_
  refine gsy (v := .bool (decide (k = k2))) (gv_of (t := 12) rfl rfl rfl) (decide_eq_false hp1) (y_eqlK (i := k) (j := k2) rfl rfl) ?_
  refine gsy (v := .bool (decide (k = k2))) (gv_of (t := 12) rfl rfl rfl) (decide_eq_false hp1) (y_move rfl) ?_
  by_cases hp2 : k = k2
  ·
   refine gsy (v := .string (bst key)) (gv_of (t := 16) rfl rfl rfl) (decide_eq_true hp2) (y_move rfl) ?_
   refine gsy (v := .string (bst key2)) (gv_of (t := 16) rfl rfl rfl) (decide_eq_true hp2) (y_move rfl) ?_
   refine gsy (v := .bool (decide (slt key key2))) (gv_of (t := 16) rfl rfl rfl) (decide_eq_true hp2) (y_lssS (a := key) (b := key2) rfl rfl) ?_
   refine gsy (v := .bool (decide (slt key key2))) (gv_of (t := 12) rfl rfl rfl) (decide_eq_false hp1) (y_pickT rfl (decide_eq_true hp2) rfl) ?_
   refine sy (v := .bool (decide (slt key key2))) (y_pickF rfl (decide_eq_false hp1) rfl) ?_
   refine sy (v := .bool (decide (slt key key2))) (y_assign rfl) ?_
   refine c_nil ?_
   refine n_then ?_
   refine wp_ret ?_
   refine e_r1 Try.results84 (rv_t rfl) ?_
   refine ⟨_, rfl, congrArg Value.bool ?_, H0.below⟩
   apply decide_eq_decide.2; exact ⟨fun h => .inr ⟨by assumption, h⟩, fun h => (h.resolve_left (by assumption)).2⟩
  ·
   refine gno (gv_of (t := 16) rfl rfl rfl) (decide_eq_false hp2) ?_
   refine gno (gv_of (t := 16) rfl rfl rfl) (decide_eq_false hp2) ?_
   refine gno (gv_of (t := 16) rfl rfl rfl) (decide_eq_false hp2) ?_
   refine gsy (v := .bool (false)) (gv_of (t := 12) rfl rfl rfl) (decide_eq_false hp1) (y_pickF (v := .bool (false)) rfl (decide_eq_false hp2) rfl) ?_
   refine sy (v := .bool (false)) (y_pickF rfl (decide_eq_false hp1) rfl) ?_
   refine sy (v := .bool (false)) (y_assign rfl) ?_
   refine c_nil ?_
   refine n_then ?_
   refine wp_ret ?_
   refine e_r1 Try.results84 (rv_t rfl) ?_
   refine ⟨_, rfl, congrArg Value.bool ?_, H0.below⟩
   symm; first | exact decide_eq_true (.inl (by assumption)) | (apply decide_eq_false; rintro (h | ⟨h, -⟩) <;> contradiction)

theorem Wrong_c (v0 : Value) (cs : List Cl) (w : World) (hC : CsR [] w v0 cs) :
    Calls Try.prog 33 (([v0] : List Value).toArray) w (fun e w' => ∃ v, e = .returned v ∧ v = I ((wrong (cs.map (·.c)) : Nat) : Int) ∧ Below w.heap.size w w') := by
 have hle := hC.le
 refine calls_mk Try.func33 rfl 52 Try.ntmps33 rfl ?_
 have H0 : St w [] [] w := St.refl w
 refine c_seq ?_
 refine c_reg ?_
 refine sy (v := I ((0 : Nat) : Int)) (y_assign (v := I ((0 : Nat) : Int)) rfl) ?_
 refine c_nil ?_
 refine n_then ?_
 refine c_seq ?_
 refine c_seq ?_
 refine c_reg ?_
 refine sy (v := I ((0 : Nat) : Int)) (y_assign (v := I ((0 : Nat) : Int)) rfl) ?_
 refine c_nil ?_
 refine n_then ?_
 refine wp_block ?_
 refine c_loop (fun (i : Nat) f1 w2 => f1 0 = v0 ∧ f1 3 = I ((i : Nat) : Int) ∧ i ≤ cs.length ∧ (∀ j, j < i → kMay (cs.getD j c0).c.k) ∧ St w [] [] w2) (fun i => cs.length - i) 0 ⟨rfl, rfl, (Nat.zero_le _), (fun j hj => absurd hj (by omega)), H0⟩ ?_
 rintro i f1 w2 ⟨s0_3, s3_3, hi, hz, H3⟩
 refine c_seq ?_
 refine c_seq ?_
 refine c_reg ?_
 refine sy (v := I ((i : Nat) : Int)) (y_move s3_3) ?_
 refine sy (v := v0) (y_move s0_3) ?_
 refine sy (v := I ((cs.length : Nat) : Int)) (y_lenR Try.underlying38 (hC.st H3).rd rfl) ?_
 refine sy (v := .bool (decide (i < cs.length))) (n_lss (a := i) (b := cs.length) rfl rfl) ?_
 refine c_nil ?_
 refine n_then ?_
 refine c_if rfl (fun hc4 => ?_) (fun hc4 => ?_)
 ·
  refine wp_skip ?_
  refine n_then ?_
  refine c_seq ?_
  refine wp_block ?_
  refine c_seq ?_
  refine c_reg ?_
  refine sy (v := v0) (y_move s0_3) ?_
  refine sy (v := I ((i : Nat) : Int)) (y_move s3_3) ?_
  refine sy (v := Ad (sp (v0)) (i * 3)) (y_ixR (m := i) Try.underlying38 sz48 (hC.st H3).rd (by decide) rfl rfl rfl (by omega)) ?_
  refine sy (v := Ad (sp (v0)) ((i * 3) + 0)) (y_fld Try.underlying48 rfl rfl sz3 (by decide) rfl) ?_
  refine sy (v := I ((cs.getD i c0).c.k)) (y_load sc3 rfl ((hC.st H3).rd.cell _ _ (flat3_get (i := i) (j := 0) (d := c0) (by omega) rfl))) ?_
  refine st (ow_call fn83 rfl (kindMay_c ((cs.getD i c0).c.k) _) ⟨rfl, trivial⟩) ?_
  rintro _ w5 ⟨rfl, hB6⟩
  have H7 : St w _ [] w5 := H3.call hB6
  refine sy (v := .bool (decide (kMay ((cs.getD i c0).c.k)))) (y_assign rfl) ?_
  refine c_nil ?_
  refine n_then ?_
  refine c_seq ?_
  refine c_reg ?_
  refine sy (v := .bool (decide (kMay ((cs.getD i c0).c.k)))) (y_move rfl) ?_
  refine sy (v := .bool (decide (¬ (kMay ((cs.getD i c0).c.k))))) (y_notP rfl) ?_
  refine c_nil ?_
  refine n_then ?_
  refine c_if rfl (fun hc8 => ?_) (fun hc8 => ?_)
  ·
   refine c_seq ?_
   refine c_reg ?_
   refine sy (v := I ((40 : Nat) : Int)) (y_assign (v := I ((40 : Nat) : Int)) rfl) ?_
   refine c_nil ?_
   refine n_then ?_
   refine wp_ret ?_
   refine r_block (r_then (r_then (r_block (r_then ?_))))
   refine e_r1 Try.results33 (rv_t rfl) ?_
   have hw := wrong_40 (not_kinds (i := i) (by omega) (by assumption))
   exact ⟨_, rfl, by rw [hw]; rfl, H7.below⟩
  ·
   refine wp_skip ?_
   refine n_block (n_then ?_)
   refine c_reg ?_
   refine sy (v := I ((i : Nat) : Int)) (y_move s3_3) ?_
   refine sy (v := I ((i + 1 : Nat) : Int)) (n_add (a := i) (b := 1) rfl rfl (by omega)) ?_
   refine sy (v := I ((i + 1 : Nat) : Int)) (y_assign rfl) ?_
   refine c_nil ?_
   exact lp_next (i + 1) ⟨s0_3, rfl, (by omega), (fun j hj => by
    by_cases e : j = i
    · rw [e]; exact Decidable.not_not.1 (by assumption)
    · exact hz j (by omega)), H7⟩ (by show _ < _; omega)
 ·
  have hkk : kinds (cs.map (·.c)) := is_kinds fun j hj => hz j (by omega)
  refine wp_exit ?_
  refine x_then (x_then (x_hit (n_then ?_)))
  refine c_seq ?_
  refine c_seq ?_
  refine c_reg ?_
  refine sy (v := I ((1 : Nat) : Int)) (y_assign (v := I ((1 : Nat) : Int)) rfl) ?_
  refine c_nil ?_
  refine n_then ?_
  refine wp_block ?_
  refine c_loop (fun (q : Nat) f9 w10 => f9 0 = v0 ∧ f9 5 = I ((q : Nat) : Int) ∧ 1 ≤ q ∧ q ≤ cs.length + 1 ∧ (∀ j, j + 1 < q → j + 1 < cs.length → ahead (cs.getD (j) c0).c.k (cs.getD (j) c0).c.key (cs.getD (j + 1) c0).c.k (cs.getD (j + 1) c0).c.key) ∧ St w [] [] w10) (fun q => cs.length + 1 - q) 1 ⟨s0_3, rfl, (by omega), (by omega), (fun j hj => absurd hj (by omega)), H3⟩ ?_
  rintro q f9 w10 ⟨s0_11, s5_11, hq1, hq, hy, H11⟩
  refine c_seq ?_
  refine c_seq ?_
  refine c_reg ?_
  refine sy (v := I ((q : Nat) : Int)) (y_move s5_11) ?_
  refine sy (v := v0) (y_move s0_11) ?_
  refine sy (v := I ((cs.length : Nat) : Int)) (y_lenR Try.underlying38 (hC.st H11).rd rfl) ?_
  refine sy (v := .bool (decide (q < cs.length))) (n_lss (a := q) (b := cs.length) rfl rfl) ?_
  refine c_nil ?_
  refine n_then ?_
  refine c_if rfl (fun hc12 => ?_) (fun hc12 => ?_)
  ·
   refine wp_skip ?_
   refine n_then ?_
   refine c_seq ?_
   refine wp_block ?_
   refine c_seq ?_
   refine drawS (.step 0 0 (.step 0 1 (.step 0 2 (.step 0 3 (.step 0 4 (.step 0 5 (.step 0 6 (.step 0 7 (.step 0 8 (.step 0 9 (.step 0 10 (.step 0 11 (.step 0 12 (.step 0 13 (.step 0 14 (.step 0 15 (.step 0 16 (.step 0 17 (.step 0 18 (.step 0 19 (.step 0 20 (.step 0 21 (.step 1 22 (.step 2 23 .nil)))))))))))))))))))))))) mixed H11 (by kernel_rfl) (by kernel_rfl) (by kernel_rfl) ?_
   intro w13 H14
   refine pt (v := v0) rfl (fun wS HS => y_move s0_11) ?_
   refine pt (v := I ((q : Nat) : Int)) rfl (fun wS HS => y_move s5_11) ?_
   refine pt (v := I ((q - 1 : Nat) : Int)) rfl (fun wS HS => n_sub (a := q) (b := 1) rfl rfl (by omega) (by omega)) ?_
   refine pt (v := Ad (sp (v0)) ((q - 1) * 3)) rfl (fun wS HS => y_ixR (m := q - 1) Try.underlying38 sz48 (hC.st HS).rd (by decide) rfl rfl rfl (by omega)) ?_
   refine pt (v := Ad (sp (v0)) (((q - 1) * 3) + 0)) rfl (fun wS HS => y_fld Try.underlying48 rfl rfl sz3 (by decide) rfl) ?_
   refine pt (v := I ((cs.getD (q - 1) c0).c.k)) rfl (fun wS HS => y_load sc3 rfl ((hC.st HS).rd.cell _ _ (flat3_get (i := q - 1) (j := 0) (d := c0) (by omega) rfl))) ?_
   refine pt (v := v0) rfl (fun wS HS => y_move s0_11) ?_
   refine pt (v := I ((q : Nat) : Int)) rfl (fun wS HS => y_move s5_11) ?_
   refine pt (v := I ((q - 1 : Nat) : Int)) rfl (fun wS HS => n_sub (a := q) (b := 1) rfl rfl (by omega) (by omega)) ?_
   refine pt (v := Ad (sp (v0)) ((q - 1) * 3)) rfl (fun wS HS => y_ixR (m := q - 1) Try.underlying38 sz48 (hC.st HS).rd (by decide) rfl rfl rfl (by omega)) ?_
   refine pt (v := Ad (sp (v0)) (((q - 1) * 3) + 1)) rfl (fun wS HS => y_fld Try.underlying48 rfl rfl sz9 (by decide) rfl) ?_
   refine pt (v := .string (bst ((cs.getD (q - 1) c0).c.key))) rfl (fun wS HS => y_load sc9 rfl ((hC.st HS).rd.cell _ _ (flat3_get (i := q - 1) (j := 1) (d := c0) (by omega) rfl))) ?_
   refine pt (v := v0) rfl (fun wS HS => y_move s0_11) ?_
   refine pt (v := I ((q : Nat) : Int)) rfl (fun wS HS => y_move s5_11) ?_
   refine pt (v := Ad (sp (v0)) (q * 3)) rfl (fun wS HS => y_ixR (m := q) Try.underlying38 sz48 (hC.st HS).rd (by decide) rfl rfl rfl (by omega)) ?_
   refine pt (v := Ad (sp (v0)) ((q * 3) + 0)) rfl (fun wS HS => y_fld Try.underlying48 rfl rfl sz3 (by decide) rfl) ?_
   refine pt (v := I ((cs.getD q c0).c.k)) rfl (fun wS HS => y_load sc3 rfl ((hC.st HS).rd.cell _ _ (flat3_get (i := q) (j := 0) (d := c0) (by omega) rfl))) ?_
   refine pt (v := v0) rfl (fun wS HS => y_move s0_11) ?_
   refine pt (v := I ((q : Nat) : Int)) rfl (fun wS HS => y_move s5_11) ?_
   refine pt (v := Ad (sp (v0)) (q * 3)) rfl (fun wS HS => y_ixR (m := q) Try.underlying38 sz48 (hC.st HS).rd (by decide) rfl rfl rfl (by omega)) ?_
   refine pt (v := Ad (sp (v0)) ((q * 3) + 1)) rfl (fun wS HS => y_fld Try.underlying48 rfl rfl sz9 (by decide) rfl) ?_
   refine pt (v := .string (bst ((cs.getD q c0).c.key))) rfl (fun wS HS => y_load sc9 rfl ((hC.st HS).rd.cell _ _ (flat3_get (i := q) (j := 1) (d := c0) (by omega) rfl))) ?_
   refine pl rfl (ow_call fn84 rfl (ahead_c ((cs.getD (q - 1) c0).c.k) ((cs.getD (q - 1) c0).c.key) ((cs.getD q c0).c.k) ((cs.getD q c0).c.key) _) ⟨rfl, rfl, rfl, rfl, trivial⟩) ?_
   rintro _ w15 ⟨rfl, hB16⟩
   have H17 : St w _ [] w15 := H14.call hB16
   refine ⟨H17, ?_⟩
   refine tly (v := .bool (decide (ahead ((cs.getD (q - 1) c0).c.k) ((cs.getD (q - 1) c0).c.key) ((cs.getD q c0).c.k) ((cs.getD q c0).c.key)))) rfl (y_assign rfl) ?_
   refine p_nil ?_
   refine n_then ?_
   refine c_seq ?_
   refine c_reg ?_
   refine sy (v := .bool (decide (ahead ((cs.getD (q - 1) c0).c.k) ((cs.getD (q - 1) c0).c.key) ((cs.getD q c0).c.k) ((cs.getD q c0).c.key)))) (y_move rfl) ?_
   refine sy (v := .bool (decide (¬ (ahead ((cs.getD (q - 1) c0).c.k) ((cs.getD (q - 1) c0).c.key) ((cs.getD q c0).c.k) ((cs.getD q c0).c.key))))) (y_notP rfl) ?_
   refine c_nil ?_
   refine n_then ?_
   refine c_if rfl (fun hc18 => ?_) (fun hc18 => ?_)
   ·
    refine c_seq ?_
    refine c_reg ?_
    refine sy (v := I ((130 : Nat) : Int)) (y_assign (v := I ((130 : Nat) : Int)) rfl) ?_
    refine c_nil ?_
    refine n_then ?_
    refine wp_ret ?_
    refine r_block (r_then (r_then (r_block (r_then ?_))))
    refine e_r1 Try.results33 (rv_t rfl) ?_
    have hw := wrong_130 hkk (not_ord (i := q) (by omega) (by omega) (by assumption))
    exact ⟨_, rfl, by rw [hw]; rfl, H17.below⟩
   ·
    refine wp_skip ?_
    refine n_block (n_then ?_)
    refine c_reg ?_
    refine sy (v := I ((q : Nat) : Int)) (y_move s5_11) ?_
    refine sy (v := I ((q + 1 : Nat) : Int)) (n_add (a := q) (b := 1) rfl rfl (by omega)) ?_
    refine sy (v := I ((q + 1 : Nat) : Int)) (y_assign rfl) ?_
    refine c_nil ?_
    exact lp_next (q + 1) ⟨s0_11, rfl, (by omega), (by omega), (fun j hj hj2 => by
     by_cases e : j + 1 = q
     · have hh := Decidable.not_not.1 (show ¬ ¬ ahead (cs.getD (q - 1) c0).c.k (cs.getD (q - 1) c0).c.key (cs.getD (q) c0).c.k (cs.getD (q) c0).c.key by assumption)
       rw [show q - 1 = j by omega, ← e] at hh; exact hh
     · exact hy j (by omega) hj2), H17⟩ (by show _ < _; omega)
  ·
   refine wp_exit ?_
   refine x_then (x_then (x_hit (n_then ?_)))
   refine c_seq ?_
   refine c_reg ?_
   refine sy (v := I ((0 : Nat) : Int)) (y_assign (v := I ((0 : Nat) : Int)) rfl) ?_
   refine c_nil ?_
   refine n_then ?_
   refine wp_ret ?_
   refine e_r1 Try.results33 (rv_t rfl) ?_
   have hw := wrong_0 hkk (is_ord fun j hj => hy j (by omega) hj)
   exact ⟨_, rfl, by rw [hw]; rfl, H11.below⟩

theorem rRoot_c (v0 : Value) (cs : List Cl) (w : World) (hC : CsR [] w v0 cs) :
    Calls Try.prog 53 (([v0] : List Value).toArray) w (fun e w' => ∃ v, e = .returned v ∧ v = .tuple #[.agg ((rootA (cs.map (·.c))).map B8).toArray, I ((wrong (cs.map (·.c)) : Nat) : Int)] ∧ Below w.heap.size w w') := by
 have hle := hC.le
 refine calls_mk Try.func53 rfl 17 Try.ntmps53 rfl ?_
 have H0 : St w [] [] w := St.refl w
 refine c_seq ?_
 refine c_reg ?_
 refine st (ow_alloc (l := (List.replicate 32 0).map B8) H0 zr26 (by simp [Value.cells])) ?_
 rintro _ w2 ⟨g1, rfl, H3⟩
 refine sy (v := I ((0 : Nat) : Int)) (y_assign (v := I ((0 : Nat) : Int)) rfl) ?_
 refine c_nil ?_
 refine n_then ?_
 refine c_seq ?_
 refine c_reg ?_
 refine sy (v := v0) (y_move rfl) ?_
 refine st (ow_call fn33 rfl (Wrong_c (v0) (cs) _ (hC.st H3).nil) ⟨rfl, trivial⟩) ?_
 rintro _ w4 ⟨rfl, hB5⟩
 have H6 : St w _ [_] w4 := H3.call hB5
 refine sy (v := I ((wrong (cs.map (fun q : Cl => q.c)) : Nat) : Int)) (y_assign rfl) ?_
 refine c_nil ?_
 refine n_then ?_
 refine c_seq ?_
 refine c_seq ?_
 refine c_reg ?_
 refine sy (v := I ((wrong (cs.map (fun q : Cl => q.c)) : Nat) : Int)) (y_move rfl) ?_
 refine sy (v := .bool (decide ((wrong (cs.map (fun q : Cl => q.c))) ≠ 0))) (n_neq (a := wrong (cs.map (fun q : Cl => q.c))) (b := 0) rfl rfl) ?_
 refine c_nil ?_
 refine n_then ?_
 refine c_if rfl (fun hc7 => ?_) (fun hc7 => ?_)
 ·
  refine c_seq ?_
  refine c_reg ?_
  refine sy (v := .agg (([0, 0, 0, 0, 0, 0, 0, 0, 0, 0, 0, 0, 0, 0, 0, 0, 0, 0, 0, 0, 0, 0, 0, 0, 0, 0, 0, 0, 0, 0, 0, 0]).map B8).toArray) (y_build (parts := []) (pv := []) (us := ([0, 0, 0, 0, 0, 0, 0, 0, 0, 0, 0, 0, 0, 0, 0, 0, 0, 0, 0, 0, 0, 0, 0, 0, 0, 0, 0, 0, 0, 0, 0, 0]).map B8) trivial (by kernel_rfl)) ?_
  refine sy (v := I ((wrong (cs.map (fun q : Cl => q.c)) : Nat) : Int)) (y_move rfl) ?_
  refine s0 (ow_storeW (us := ([0, 0, 0, 0, 0, 0, 0, 0, 0, 0, 0, 0, 0, 0, 0, 0, 0, 0, 0, 0, 0, 0, 0, 0, 0, 0, 0, 0, 0, 0, 0, 0]).map B8) H6 sz26 (by simp [*]) rfl rfl (map_one (F := B8) (fun _ => rfl) _) ((List.length_map _).trans List.length_replicate)) ?_
  rintro _ w8 H9'
  have H9 : St w _ [[(g1, Rw 26 (([0, 0, 0, 0, 0, 0, 0, 0, 0, 0, 0, 0, 0, 0, 0, 0, 0, 0, 0, 0, 0, 0, 0, 0, 0, 0, 0, 0, 0, 0, 0, 0]).map B8))]] w8 := H9'
  refine sy (v := I ((wrong (cs.map (fun q : Cl => q.c)) : Nat) : Int)) (y_assign rfl) ?_
  refine c_nil ?_
  refine n_then ?_
  refine wp_ret ?_
  refine r_then ?_
  refine e_r2 Try.results53 (rv_b H9 (i := 0) rfl ag26 sz26 (by simp [*]) rfl) (rv_t rfl) ?_
  have hq := rootA_no (l := cs.map (·.c)) (by assumption)
  exact ⟨_, rfl, by rw [hq]; rfl, H9.below⟩
 ·
  refine wp_skip ?_
  refine n_then ?_
  refine c_seq ?_
  refine c_reg ?_
  refine sy (v := .agg ([.slice none 0 0]).toArray) (y_build (parts := []) (pv := []) (us := [.slice none 0 0]) trivial (by kernel_rfl)) ?_
  refine st (ow_box (l := [.slice none 0 0]) H6 rfl rfl) ?_
  rintro _ w11 ⟨g10, rfl, H12⟩
  refine sy (v := Ad (bs g10) (0)) (y_assign rfl) ?_
  refine c_nil ?_
  refine n_then ?_
  refine c_seq ?_
  refine c_reg ?_
  refine sy (v := Ad (bs g10) (0)) (y_move rfl) ?_
  refine sy (v := v0) (y_move rfl) ?_
  refine st (ow_call fn96 rfl (broot_c g10 ([] : List (List UInt8)) [(g10, Rw 120 [.slice none 0 0])] v0 cs _ (bk_new g10) (fun p hp => H12.own _ List.mem_cons_self p hp) (hC.awayX H12) (by first | omega | (simp only [List.length_append, List.length_cons, List.length_nil, List.length_take, List.length_drop]; omega))) ⟨rfl, rfl, trivial⟩) ?_
  rintro _ w14 ⟨rfl, E13, hK16, H15⟩
  have H17 : St w _ [_, _] w14 := H12.appE H15
  have H18 : St w _ [_, _] w14 := H17.foc 1 rfl rfl
  refine s0 (ow_storeW (us := (rootH (cs.map (fun q : Cl => q.c))).map B8) H18 sz26 ((List.length_map _).trans (rootH_len (cs.map (fun q : Cl => q.c)))) rfl rfl (map_one (F := B8) (fun _ => rfl) _) ((List.length_map _).trans List.length_replicate)) ?_
  rintro _ w19 H20'
  have H20 : St w _ [[(g1, Rw 26 ((rootH (cs.map (fun q : Cl => q.c))).map B8))], _] w19 := H20'
  refine sy (v := I ((0 : Nat) : Int)) (y_assign (v := I ((0 : Nat) : Int)) rfl) ?_
  refine c_nil ?_
  refine n_then ?_
  refine wp_ret ?_
  refine e_r2 Try.results53 (rv_b H20 (i := 0) rfl ag26 sz26 ((List.length_map _).trans (rootH_len (cs.map (fun q : Cl => q.c)))) rfl) (rv_t rfl) ?_
  have hw : wrong (cs.map (·.c)) = 0 := by omega
  have hq := rootA_yes hw
  exact ⟨_, rfl, by rw [hq, hw]; rfl, H20.below⟩

theorem same_c (c d : Cl) (w : World) (hC : CR [] w c) (hD : CR [] w d) :
    Calls Try.prog 36 (([.agg ([I c.c.k, .string (bst c.c.key), c.v]).toArray, .agg ([I d.c.k, .string (bst d.c.key), d.v]).toArray] : List Value).toArray) w (fun e w' => ∃ v, e = .returned v ∧ v = .bool (decide (sameC c.c d.c)) ∧ Below w.heap.size w w') := by
 refine calls_mk Try.func36 rfl 26 Try.ntmps36 rfl ?_
 have H0 : St w [] [] w := St.refl w
 refine c_seq ?_
 refine c_reg ?_
 refine st (ow_box (l := [I (c.c.k), .string (bst c.c.key), c.v]) H0 rfl rfl) ?_
 rintro _ w2 ⟨g1, rfl, H3⟩
 refine st (ow_box (l := [I (d.c.k), .string (bst d.c.key), d.v]) H3 rfl rfl) ?_
 rintro _ w5 ⟨g4, rfl, H6⟩
 refine sy (v := .bool (false)) (y_assign (v := .bool (false)) rfl) ?_
 refine c_nil ?_
 refine n_then ?_
 refine c_seq ?_
 refine c_reg ?_
 refine sy (v := Ad (bs g1) (0 + 0)) (y_fld Try.underlying48 rfl rfl sz3 (by decide) rfl) ?_
 refine sy (v := I (c.c.k)) (y_load sc3 rfl (H6.cell 1 rfl rfl)) ?_
 refine sy (v := Ad (bs g4) (0 + 0)) (y_fld Try.underlying48 rfl rfl sz3 (by decide) rfl) ?_
 refine sy (v := I (d.c.k)) (y_load sc3 rfl (H6.cell 0 rfl rfl)) ?_
 refine sy (v := .bool (decide (c.c.k = d.c.k))) (y_eqlK (i := c.c.k) (j := d.c.k) rfl rfl) ?_
 refine sy (v := .bool (decide (c.c.k = d.c.k))) (y_move rfl) ?_
 by_cases hp7 : c.c.k = d.c.k
 ·
  refine gsy (v := Ad (bs g1) (0 + 1)) (gv_of (t := 10) rfl rfl rfl) (decide_eq_true hp7) (y_fld Try.underlying48 rfl rfl sz9 (by decide) rfl) ?_
  refine gsy (v := .string (bst c.c.key)) (gv_of (t := 10) rfl rfl rfl) (decide_eq_true hp7) (y_load sc9 rfl (H6.cell 1 rfl rfl)) ?_
  refine gsy (v := Ad (bs g4) (0 + 1)) (gv_of (t := 10) rfl rfl rfl) (decide_eq_true hp7) (y_fld Try.underlying48 rfl rfl sz9 (by decide) rfl) ?_
  refine gsy (v := .string (bst d.c.key)) (gv_of (t := 10) rfl rfl rfl) (decide_eq_true hp7) (y_load sc9 rfl (H6.cell 0 rfl rfl)) ?_
  refine gsy (v := .bool (decide (c.c.key = d.c.key))) (gv_of (t := 10) rfl rfl rfl) (decide_eq_true hp7) (y_eqlS (a := c.c.key) (b := d.c.key) rfl rfl) ?_
  refine sy (v := .bool (decide (c.c.key = d.c.key))) (y_pickT rfl (decide_eq_true hp7) rfl) ?_
  refine sy (v := .bool (decide (c.c.key = d.c.key))) (y_move rfl) ?_
  by_cases hp8 : c.c.key = d.c.key
  ·
   refine gsy (v := Ad (bs g1) (0 + 2)) (gv_of (t := 17) rfl rfl rfl) (decide_eq_true hp8) (y_fld Try.underlying48 rfl rfl sz23 (by decide) rfl) ?_
   refine gsy (v := c.v) (gv_of (t := 17) rfl rfl rfl) (decide_eq_true hp8) (y_load sc23 rfl (H6.cell 1 rfl rfl)) ?_
   refine gsy (v := .string (bst c.c.l)) (gv_of (t := 17) rfl rfl rfl) (decide_eq_true hp8) (y_str Try.underlying23 Try.underlying5 Try.underlying9 (hC.1.st H6) rfl) ?_
   refine gsy (v := Ad (bs g4) (0 + 2)) (gv_of (t := 17) rfl rfl rfl) (decide_eq_true hp8) (y_fld Try.underlying48 rfl rfl sz23 (by decide) rfl) ?_
   refine gsy (v := d.v) (gv_of (t := 17) rfl rfl rfl) (decide_eq_true hp8) (y_load sc23 rfl (H6.cell 0 rfl rfl)) ?_
   refine gsy (v := .string (bst d.c.l)) (gv_of (t := 17) rfl rfl rfl) (decide_eq_true hp8) (y_str Try.underlying23 Try.underlying5 Try.underlying9 (hD.1.st H6) rfl) ?_
   refine gsy (v := .bool (decide (c.c.l = d.c.l))) (gv_of (t := 17) rfl rfl rfl) (decide_eq_true hp8) (y_eqlS (a := c.c.l) (b := d.c.l) rfl rfl) ?_
   refine sy (v := .bool (decide (c.c.l = d.c.l))) (y_pickT rfl (decide_eq_true hp8) rfl) ?_
   refine sy (v := .bool (decide (c.c.l = d.c.l))) (y_assign rfl) ?_
   refine c_nil ?_
   refine n_then ?_
   refine wp_ret ?_
   refine e_r1 Try.results36 (rv_t rfl) ?_
   refine ⟨_, rfl, congrArg Value.bool ?_, H6.below⟩
   apply decide_eq_decide.2; first | exact ⟨fun h => ⟨by assumption, by assumption, h⟩, fun h => h.2.2⟩ | exact ⟨fun h => absurd h (by assumption), fun h => absurd h.1 (by assumption)⟩ | exact ⟨fun h => absurd h (by assumption), fun h => absurd h.2.1 (by assumption)⟩
  ·
   refine gno (gv_of (t := 17) rfl rfl rfl) (decide_eq_false hp8) ?_
   refine gno (gv_of (t := 17) rfl rfl rfl) (decide_eq_false hp8) ?_
   refine gno (gv_of (t := 17) rfl rfl rfl) (decide_eq_false hp8) ?_
   refine gno (gv_of (t := 17) rfl rfl rfl) (decide_eq_false hp8) ?_
   refine gno (gv_of (t := 17) rfl rfl rfl) (decide_eq_false hp8) ?_
   refine gno (gv_of (t := 17) rfl rfl rfl) (decide_eq_false hp8) ?_
   refine gno (gv_of (t := 17) rfl rfl rfl) (decide_eq_false hp8) ?_
   refine sy (v := .bool (false)) (y_pickF (v := .bool (false)) rfl (decide_eq_false hp8) rfl) ?_
   refine sy (v := .bool (false)) (y_assign rfl) ?_
   refine c_nil ?_
   refine n_then ?_
   refine wp_ret ?_
   refine e_r1 Try.results36 (rv_t rfl) ?_
   refine ⟨_, rfl, congrArg Value.bool ?_, H6.below⟩
   symm; apply decide_eq_false; rintro ⟨h1, h2, h3⟩; contradiction
 ·
  refine gno (gv_of (t := 10) rfl rfl rfl) (decide_eq_false hp7) ?_
  refine gno (gv_of (t := 10) rfl rfl rfl) (decide_eq_false hp7) ?_
  refine gno (gv_of (t := 10) rfl rfl rfl) (decide_eq_false hp7) ?_
  refine gno (gv_of (t := 10) rfl rfl rfl) (decide_eq_false hp7) ?_
  refine gno (gv_of (t := 10) rfl rfl rfl) (decide_eq_false hp7) ?_
  refine sy (v := .bool (false)) (y_pickF (v := .bool (false)) rfl (decide_eq_false hp7) rfl) ?_
  refine sy (v := .bool (false)) (y_move rfl) ?_
  refine gno (t := false) (b := true) (gv_of (t := 17) rfl rfl rfl) (rfl) ?_
  refine gno (t := false) (b := true) (gv_of (t := 17) rfl rfl rfl) (rfl) ?_
  refine gno (t := false) (b := true) (gv_of (t := 17) rfl rfl rfl) (rfl) ?_
  refine gno (t := false) (b := true) (gv_of (t := 17) rfl rfl rfl) (rfl) ?_
  refine gno (t := false) (b := true) (gv_of (t := 17) rfl rfl rfl) (rfl) ?_
  refine gno (t := false) (b := true) (gv_of (t := 17) rfl rfl rfl) (rfl) ?_
  refine gno (t := false) (b := true) (gv_of (t := 17) rfl rfl rfl) (rfl) ?_
  refine sy (v := .bool (false)) (y_pickF (v := .bool (false)) rfl (rfl) rfl) ?_
  refine sy (v := .bool (false)) (y_assign rfl) ?_
  refine c_nil ?_
  refine n_then ?_
  refine wp_ret ?_
  refine e_r1 Try.results36 (rv_t rfl) ?_
  refine ⟨_, rfl, congrArg Value.bool ?_, H6.below⟩
  symm; apply decide_eq_false; rintro ⟨h1, h2, h3⟩; contradiction

theorem take_rows {rows : List (List UInt8)} {i : Nat} (hi : i < rows.length) : (rows.take (i + 1)).map sha = (rows.take i).map sha ++ [sha (rows.getD i [])] := by
  rw [List.take_add_one, List.map_append, List.getD_eq_getElem?_getD, List.getElem?_eq_getElem hi]; rfl
theorem getD_map {rows : List (List UInt8)} {i : Nat} (hi : i < rows.length) : (rows.map sha).getD i [] = sha (rows.getD i []) := by
  rw [List.getD_eq_getElem?_getD, List.getElem?_map, List.getD_eq_getElem?_getD, List.getElem?_eq_getElem hi]; rfl
theorem getD_rl {rows : List (List UInt8)} {i : Nat} {b : Nat} (hrl : ∀ l ∈ rows, l.length ≤ b) (hi : i < rows.length) : (rows.getD i []).length ≤ b := by
  rw [List.getD_eq_getElem?_getD, List.getElem?_eq_getElem hi]; exact hrl _ (List.getElem_mem hi)

theorem twice_c (rv : Value) (vs : List Value) (rows : List (List UInt8)) (w : World) (hv : Rd [] w 1 rv rows.length vs) (hr : Rds w vs rows) (hvl : vs.length = rows.length) (hn : rows.length ≤ 4398046511103) (hrl : ∀ l ∈ rows, l.length ≤ 190000000000000) :
    Calls Try.prog 98 (([rv] : List Value).toArray) w (fun e w' => ∃ v, e = .returned v ∧ ∃ b : Bool, v = .bool b ∧ (b = true ↔ twiceP rows) ∧ Below w.heap.size w w') := by
 refine calls_mk Try.func98 rfl 55 Try.ntmps98 rfl ?_
 have H0 : St w [] [] w := St.refl w
 refine c_seq ?_
 refine c_reg ?_
 refine sy (v := .bool (false)) (y_assign (v := .bool (false)) rfl) ?_
 refine c_nil ?_
 refine n_then ?_
 refine c_seq ?_
 refine c_reg ?_
 refine st (ow_lit0 Try.underlying72 sz26 zr26 H0) ?_
 rintro _ w2 ⟨g1, rfl, H3⟩
 refine sy (v := .slice (some (bs g1)) 0 0) (y_assign rfl) ?_
 refine c_nil ?_
 refine n_then ?_
 refine c_seq ?_
 refine c_seq ?_
 refine c_reg ?_
 refine sy (v := I ((0 : Nat) : Int)) (y_assign (v := I ((0 : Nat) : Int)) rfl) ?_
 refine c_nil ?_
 refine n_then ?_
 refine wp_block ?_
 refine c_loop (fun (m : Nat) f5 w6 => ∃ (tv : Value), ∃ (ET : Part), f5 0 = rv ∧ f5 3 = tv ∧ f5 4 = I ((m : Nat) : Int) ∧ m ≤ rows.length ∧ H32 ((rows.take m).map sha) ∧ OS 26 32 tv ((rows.take m).map sha).length (((rows.take m).map sha).flatten.map B8) ET ∧ St w [] [ET] w6) (fun m => rows.length - m) 0 ⟨_, _, rfl, rfl, rfl, (Nat.zero_le _), hh_nil, (os_hb (n := 0) hh_nil rfl (by unfold maxLen; omega)), H3⟩ ?_
 rintro m f5 w6 ⟨tv, ET, s0_7, s3_7, s4_7, hi, hhT, hoT, H7⟩
 have hlT : ((rows.take m).map sha).length = m := by rw [List.length_map, List.length_take]; omega
 refine c_seq ?_
 refine c_seq ?_
 refine c_reg ?_
 refine sy (v := I ((m : Nat) : Int)) (y_move s4_7) ?_
 refine sy (v := rv) (y_move s0_7) ?_
 refine sy (v := I ((rows.length : Nat) : Int)) (y_lenR Try.underlying36 (hv.st H7) rfl) ?_
 refine sy (v := .bool (decide (m < rows.length))) (n_lss (a := m) (b := rows.length) rfl rfl) ?_
 refine c_nil ?_
 refine n_then ?_
 refine c_if rfl (fun hc8 => ?_) (fun hc8 => ?_)
 ·
  refine wp_skip ?_
  refine n_then ?_
  refine c_seq ?_
  refine wp_block ?_
  have hrq := getD_rl hrl (i := m) (by omega)
  refine c_reg ?_
  refine sy (v := tv) (y_move s3_7) ?_
  refine sy (v := rv) (y_move s0_7) ?_
  refine sy (v := I ((m : Nat) : Int)) (y_move s4_7) ?_
  refine sy (v := Ad (sp (rv)) (m * 1)) (y_ixR (m := m) Try.underlying36 sz23 (hv.st H7) (by decide) rfl rfl rfl (by omega)) ?_
  refine sy (v := vs.getD m undef) (y_load sc23 rfl ((hv.st H7).cell _ _ (by rw [Nat.mul_one]; exact getD_get (by rw [hvl]; omega)))) ?_
  refine st (ow_call fn77 rfl (rof_c (vs.getD m undef) (rows.getD m []) _ (((hr.get m (by omega)).st H7)).nil (by omega)) ⟨rfl, trivial⟩) ?_
  rintro _ w9 ⟨rfl, hB10⟩
  have H11 : St w _ [_] w9 := H7.call hB10
  refine st (ow_lit1 (h := sha (rows.getD m [])) Try.underlying72 sz26 zr26 H11 rfl (sha_length _)) ?_
  rintro _ w13 ⟨g12, rfl, H14⟩
  have hh15 : H32 [sha (rows.getD m [])] := hh_one (sha_length _)
  have H22 : St w _ [_, _] w13 := H14.foc 1 rfl rfl
  refine st (ow_appH (hs := ((rows.take m).map sha)) (ks := [sha (rows.getD m [])]) Try.underlying72 sz26 zr26 bt26 rfl Try.underlying72 hoT H22 rfl rfl (rd_hblk H22 1 rfl hh15 rfl (by unfold maxLen; omega)) (by first | omega | (simp only [List.length_append, List.length_cons, List.length_nil]; omega))) ?_
  rintro v17 w18 ⟨E16, ho20, H19⟩
  have hh21 : H32 (((rows.take m).map sha) ++ ([sha (rows.getD m [])])) := hh_app hhT hh15
  refine sy (v := v17) (y_assign rfl) ?_
  refine c_nil ?_
  refine n_block (n_then ?_)
  refine c_reg ?_
  refine sy (v := I ((m : Nat) : Int)) (y_move s4_7) ?_
  refine sy (v := I ((m + 1 : Nat) : Int)) (n_add (a := m) (b := 1) rfl rfl (by omega)) ?_
  refine sy (v := I ((m + 1 : Nat) : Int)) (y_assign rfl) ?_
  refine c_nil ?_
  have H23 : St w _ [_] w18 := H19.take 1 rfl
  exact lp_next (m + 1) ⟨_, _, s0_7, rfl, rfl, (by omega), (by rw [take_rows (by omega)]; exact hh21), (by rw [take_rows (by omega)]; exact ho20), H23⟩ (by show _ < _; omega)
 ·
  obtain rfl : m = rows.length := by omega
  rw [List.take_of_length_le (Nat.le_refl _)] at hoT hhT hlT
  refine wp_exit ?_
  refine x_then (x_then (x_hit (n_then ?_)))
  refine c_seq ?_
  refine c_seq ?_
  refine c_reg ?_
  refine sy (v := I ((0 : Nat) : Int)) (y_assign (v := I ((0 : Nat) : Int)) rfl) ?_
  refine c_nil ?_
  refine n_then ?_
  refine wp_block ?_
  refine c_loop (fun (i : Nat) f24 w25 => f24 0 = rv ∧ f24 3 = tv ∧ f24 5 = I ((i : Nat) : Int) ∧ i ≤ rows.length ∧ (∀ p q, q < p → p < i → sha (rows.getD p []) = sha (rows.getD q []) → rows.getD p [] = rows.getD q []) ∧ St w [] [ET] w25) (fun i => rows.length - i) 0 ⟨s0_7, s3_7, rfl, (Nat.zero_le _), (fun p q h1 h2 => absurd h2 (by omega)), H7⟩ ?_
  rintro i f24 w25 ⟨s0_26, s3_26, s5_26, hi, hz, H26⟩
  refine c_seq ?_
  refine c_seq ?_
  refine c_reg ?_
  refine sy (v := I ((i : Nat) : Int)) (y_move s5_26) ?_
  refine sy (v := rv) (y_move s0_26) ?_
  refine sy (v := I ((rows.length : Nat) : Int)) (y_lenR Try.underlying36 (hv.st H26) rfl) ?_
  refine sy (v := .bool (decide (i < rows.length))) (n_lss (a := i) (b := rows.length) rfl rfl) ?_
  refine c_nil ?_
  refine n_then ?_
  refine c_if rfl (fun hc27 => ?_) (fun hc27 => ?_)
  ·
   refine wp_skip ?_
   refine n_then ?_
   refine c_seq ?_
   refine wp_block ?_
   refine c_seq ?_
   refine c_reg ?_
   refine sy (v := I ((0 : Nat) : Int)) (y_assign (v := I ((0 : Nat) : Int)) rfl) ?_
   refine c_nil ?_
   refine n_then ?_
   refine wp_block ?_
   refine c_loop (fun (j : Nat) f28 w29 => f28 0 = rv ∧ f28 3 = tv ∧ f28 5 = I ((i : Nat) : Int) ∧ f28 6 = I ((j : Nat) : Int) ∧ j ≤ i ∧ (∀ q, q < j → sha (rows.getD i []) = sha (rows.getD q []) → rows.getD i [] = rows.getD q []) ∧ St w [] [ET] w29) (fun j => i - j) 0 ⟨s0_26, s3_26, s5_26, rfl, (Nat.zero_le _), (fun q h => absurd h (by omega)), H26⟩ ?_
   rintro j f28 w29 ⟨s0_30, s3_30, s5_30, s6_30, hj, hy, H30⟩
   refine c_seq ?_
   refine c_seq ?_
   refine c_reg ?_
   refine sy (v := I ((j : Nat) : Int)) (y_move s6_30) ?_
   refine sy (v := I ((i : Nat) : Int)) (y_move s5_30) ?_
   refine sy (v := .bool (decide (j < i))) (n_lss (a := j) (b := i) rfl rfl) ?_
   refine c_nil ?_
   refine n_then ?_
   refine c_if rfl (fun hc31 => ?_) (fun hc31 => ?_)
   ·
    refine wp_skip ?_
    refine n_then ?_
    refine c_seq ?_
    refine wp_block ?_
    refine c_seq ?_
    have hlm : (rows.map sha).length = rows.length := List.length_map ..
    have hjr : j < rows.length := by omega
    have hir : i < rows.length := by omega
    refine drawS (.step 0 0 (.step 0 1 (.step 0 2 (.step 0 3 (.step 0 4 (.step 0 5 (.step 0 6 (.step 0 7 (.step 0 8 (.step 0 9 (.step 0 10 (.step 0 11 (.step 0 12 (.step 0 13 (.step 0 14 (.step 0 15 (.step 0 16 (.step 0 17 (.step 0 18 (.step 0 19 (.step 0 20 (.step 0 21 .nil)))))))))))))))))))))) mixed H30 (by kernel_rfl) (by kernel_rfl) (by kernel_rfl) ?_
    intro w32 H33
    refine pt (v := tv) rfl (fun wS HS => y_move s3_30) ?_
    refine pt (v := I ((i : Nat) : Int)) rfl (fun wS HS => y_move s5_30) ?_
    refine pt (v := Ad (sp (tv)) (i * 32)) rfl (fun wS HS => y_ixR (m := i) Try.underlying72 sz26 (hoT.rd HS 0 rfl) (by decide) rfl rfl rfl (by omega)) ?_
    refine pt (v := .agg (((rows.map sha).getD i []).map B8).toArray) rfl (fun wS HS => y_loadA (us := ((rows.map sha).getD i []).map B8) ag26 sz26 ((List.length_map _).trans (getD_len hhT (by omega))) rfl (fun j u hu => (hoT.rd HS 0 rfl).cell _ _ (flat_get hhT (by omega) hu))) ?_
    refine pt (v := tv) rfl (fun wS HS => y_move s3_30) ?_
    refine pt (v := I ((j : Nat) : Int)) rfl (fun wS HS => y_move s6_30) ?_
    refine pt (v := Ad (sp (tv)) (j * 32)) rfl (fun wS HS => y_ixR (m := j) Try.underlying72 sz26 (hoT.rd HS 0 rfl) (by decide) rfl rfl rfl (by omega)) ?_
    refine pt (v := .agg (((rows.map sha).getD j []).map B8).toArray) rfl (fun wS HS => y_loadA (us := ((rows.map sha).getD j []).map B8) ag26 sz26 ((List.length_map _).trans (getD_len hhT (by omega))) rfl (fun j u hu => (hoT.rd HS 0 rfl).cell _ _ (flat_get hhT (by omega) hu))) ?_
    refine pt (v := .bool (decide (((rows.map sha).getD i []) = ((rows.map sha).getD j [])))) rfl (fun wS HS => y_eqlArr (l1 := (rows.map sha).getD i []) (l2 := (rows.map sha).getD j []) Try.underlying26 sz5 sc5 Try.underlying5 gt26 (getD_len hhT (by omega)) (getD_len hhT (by omega)) rfl rfl) ?_
    refine pt (v := .bool (decide (((rows.map sha).getD i []) = ((rows.map sha).getD j [])))) rfl (fun wS HS => y_move rfl) ?_
    by_cases hp34 : ((rows.map sha).getD i []) = ((rows.map sha).getD j [])
    ·
     refine gpt (v := rv) rfl (gv_of (t := 42) rfl rfl rfl) (decide_eq_true hp34) (fun wS HS => y_move s0_30) ?_
     refine gpt (v := I ((i : Nat) : Int)) rfl (gv_of (t := 42) rfl rfl rfl) (decide_eq_true hp34) (fun wS HS => y_move s5_30) ?_
     refine gpt (v := Ad (sp (rv)) (i * 1)) rfl (gv_of (t := 42) rfl rfl rfl) (decide_eq_true hp34) (fun wS HS => y_ixR (m := i) Try.underlying36 sz23 (hv.st HS) (by decide) rfl rfl rfl (by omega)) ?_
     refine gpt (v := vs.getD i undef) rfl (gv_of (t := 42) rfl rfl rfl) (decide_eq_true hp34) (fun wS HS => y_load sc23 rfl ((hv.st HS).cell _ _ (by rw [Nat.mul_one]; exact getD_get (by rw [hvl]; omega)))) ?_
     refine gpt (v := .string (bst (rows.getD i []))) rfl (gv_of (t := 42) rfl rfl rfl) (decide_eq_true hp34) (fun wS HS => y_str Try.underlying23 Try.underlying5 Try.underlying9 ((hr.get i (by omega)).st HS) rfl) ?_
     refine gpt (v := rv) rfl (gv_of (t := 42) rfl rfl rfl) (decide_eq_true hp34) (fun wS HS => y_move s0_30) ?_
     refine gpt (v := I ((j : Nat) : Int)) rfl (gv_of (t := 42) rfl rfl rfl) (decide_eq_true hp34) (fun wS HS => y_move s6_30) ?_
     refine gpt (v := Ad (sp (rv)) (j * 1)) rfl (gv_of (t := 42) rfl rfl rfl) (decide_eq_true hp34) (fun wS HS => y_ixR (m := j) Try.underlying36 sz23 (hv.st HS) (by decide) rfl rfl rfl (by omega)) ?_
     refine gpt (v := vs.getD j undef) rfl (gv_of (t := 42) rfl rfl rfl) (decide_eq_true hp34) (fun wS HS => y_load sc23 rfl ((hv.st HS).cell _ _ (by rw [Nat.mul_one]; exact getD_get (by rw [hvl]; omega)))) ?_
     refine gpt (v := .string (bst (rows.getD j []))) rfl (gv_of (t := 42) rfl rfl rfl) (decide_eq_true hp34) (fun wS HS => y_str Try.underlying23 Try.underlying5 Try.underlying9 ((hr.get j (by omega)).st HS) rfl) ?_
     refine gpt (v := .bool (decide ((rows.getD i []) ≠ (rows.getD j [])))) rfl (gv_of (t := 42) rfl rfl rfl) (decide_eq_true hp34) (fun wS HS => y_neqS (a := rows.getD i []) (b := rows.getD j []) rfl rfl) ?_
     refine pt (v := .bool (decide ((rows.getD i []) ≠ (rows.getD j [])))) rfl (fun wS HS => y_pickT rfl (decide_eq_true hp34) rfl) ?_
     refine p_nil ?_
     refine n_then ?_
     refine c_if rfl (fun hc35 => ?_) (fun hc35 => ?_)
     ·
      refine c_seq ?_
      refine c_reg ?_
      refine sy (v := .bool (true)) (y_assign (v := .bool (true)) rfl) ?_
      refine c_nil ?_
      refine n_then ?_
      refine wp_ret ?_
      refine r_block (r_then (r_then (r_block (r_block (r_then (r_then (r_block (r_then ?_))))))))
      refine e_r1 Try.results98 (rv_t rfl) ?_
      have hij : sha (rows.getD i []) = sha (rows.getD j []) := (getD_map hir) ▸ (getD_map hjr) ▸ (show (rows.map sha).getD i [] = (rows.map sha).getD j [] by assumption)
      exact ⟨_, rfl, true, rfl, ⟨fun _ => ⟨i, j, by omega, by omega, hij, by assumption⟩, fun _ => rfl⟩, H33.below⟩
     ·
      refine wp_skip ?_
      refine n_block (n_then ?_)
      refine c_reg ?_
      refine sy (v := I ((j : Nat) : Int)) (y_move s6_30) ?_
      refine sy (v := I ((j + 1 : Nat) : Int)) (n_add (a := j) (b := 1) rfl rfl (by omega)) ?_
      refine sy (v := I ((j + 1 : Nat) : Int)) (y_assign rfl) ?_
      refine c_nil ?_
      exact lp_next (j + 1) ⟨s0_30, s3_30, s5_30, rfl, (by omega), (fun q hq hs => by
       by_cases e : q = j
       · subst e
         have hs' : (rows.map sha).getD i [] = (rows.map sha).getD q [] := by rw [getD_map hir, getD_map hjr]; exact hs
         first
          | exact absurd hs' (by assumption)
          | exact Decidable.not_not.1 (by assumption)
       · exact hy q (by omega) hs), H33⟩ (by show _ < _; omega)
    ·
     refine gpno rfl (gv_of (t := 42) rfl rfl rfl) (decide_eq_false hp34) ?_
     refine gpno rfl (gv_of (t := 42) rfl rfl rfl) (decide_eq_false hp34) ?_
     refine gpno rfl (gv_of (t := 42) rfl rfl rfl) (decide_eq_false hp34) ?_
     refine gpno rfl (gv_of (t := 42) rfl rfl rfl) (decide_eq_false hp34) ?_
     refine gpno rfl (gv_of (t := 42) rfl rfl rfl) (decide_eq_false hp34) ?_
     refine gpno rfl (gv_of (t := 42) rfl rfl rfl) (decide_eq_false hp34) ?_
     refine gpno rfl (gv_of (t := 42) rfl rfl rfl) (decide_eq_false hp34) ?_
     refine gpno rfl (gv_of (t := 42) rfl rfl rfl) (decide_eq_false hp34) ?_
     refine gpno rfl (gv_of (t := 42) rfl rfl rfl) (decide_eq_false hp34) ?_
     refine gpno rfl (gv_of (t := 42) rfl rfl rfl) (decide_eq_false hp34) ?_
     refine gpno rfl (gv_of (t := 42) rfl rfl rfl) (decide_eq_false hp34) ?_
     refine pt (v := .bool (false)) rfl (fun wS HS => y_pickF (v := .bool (false)) rfl (decide_eq_false hp34) rfl) ?_
     refine p_nil ?_
     refine n_then ?_
     refine c_f rfl rfl ?_
     refine wp_skip ?_
     refine n_block (n_then ?_)
     refine c_reg ?_
     refine sy (v := I ((j : Nat) : Int)) (y_move s6_30) ?_
     refine sy (v := I ((j + 1 : Nat) : Int)) (n_add (a := j) (b := 1) rfl rfl (by omega)) ?_
     refine sy (v := I ((j + 1 : Nat) : Int)) (y_assign rfl) ?_
     refine c_nil ?_
     exact lp_next (j + 1) ⟨s0_30, s3_30, s5_30, rfl, (by omega), (fun q hq hs => by
      by_cases e : q = j
      · subst e
        have hs' : (rows.map sha).getD i [] = (rows.map sha).getD q [] := by rw [getD_map hir, getD_map hjr]; exact hs
        first
         | exact absurd hs' (by assumption)
         | exact Decidable.not_not.1 (by assumption)
      · exact hy q (by omega) hs), H33⟩ (by show _ < _; omega)
   ·
    refine wp_exit ?_
    refine x_then (x_then (x_hit (n_block (n_then ?_))))
    refine c_reg ?_
    refine sy (v := I ((i : Nat) : Int)) (y_move s5_30) ?_
    refine sy (v := I ((i + 1 : Nat) : Int)) (n_add (a := i) (b := 1) rfl rfl (by omega)) ?_
    refine sy (v := I ((i + 1 : Nat) : Int)) (y_assign rfl) ?_
    refine c_nil ?_
    exact lp_next (i + 1) ⟨s0_30, s3_30, rfl, (by omega), (fun p q h1 h2 => by
     by_cases e : p = i
     · subst e; exact hy q (by omega)
     · exact hz p q h1 (by omega)), H30⟩ (by show _ < _; omega)
  ·
   refine wp_exit ?_
   refine x_then (x_then (x_hit (n_then ?_)))
   refine c_seq ?_
   refine c_reg ?_
   refine sy (v := .bool (false)) (y_assign (v := .bool (false)) rfl) ?_
   refine c_nil ?_
   refine n_then ?_
   refine wp_ret ?_
   refine e_r1 Try.results98 (rv_t rfl) ?_
   exact ⟨_, rfl, false, rfl, ⟨fun h => absurd h (by simp), fun ⟨p, q, h1, h2, h3, h4⟩ => absurd (hz p q h1 (by omega) h3) h4⟩, H26.below⟩

theorem rowsRC_le (cs : List Cl) : (rowsR (cs.map (·.c))).length ≤ 2 * cs.length + 1 := by
  unfold rowsR
  split
  · simp
  · have := rowsC_le cs
    rw [List.length_append, List.length_singleton]; omega

theorem meet_c (v0 v1 : Value) (cs ds : List Cl) (w : World) (hC : CsR [] w v0 cs) (hD : CsR [] w v1 ds) (hcs : cs.length ≤ 1073741824) (hds : ds.length ≤ 1073741824) (hrl : ∀ l ∈ rowsR (cs.map (·.c)) ++ rowsR (ds.map (·.c)), l.length ≤ 190000000000000) :
    Calls Try.prog 71 (([v0, v1] : List Value).toArray) w (fun e w' => ∃ v, e = .returned v ∧ ∃ b : Bool, v = .bool b ∧ (b = true ↔ twiceP (rowsR (cs.map (·.c)) ++ rowsR (ds.map (·.c)))) ∧ Below w.heap.size w w') := by
 have hle := hC.le
 have hle2 := hD.le
 have hT1 := rowsRC_le cs
 have hT2 := rowsRC_le ds
 refine calls_mk Try.func71 rfl 19 Try.ntmps71 rfl ?_
 have H0 : St w [] [] w := St.refl w
 refine c_seq ?_
 refine c_reg ?_
 refine sy (v := .bool (false)) (y_assign (v := .bool (false)) rfl) ?_
 refine c_nil ?_
 refine n_then ?_
 refine c_seq ?_
 refine c_reg ?_
 refine sy (v := .agg ([.slice none 0 0]).toArray) (y_build (parts := []) (pv := []) (us := [.slice none 0 0]) trivial (by kernel_rfl)) ?_
 refine st (ow_box (l := [.slice none 0 0]) H0 rfl rfl) ?_
 rintro _ w2 ⟨g1, rfl, H3⟩
 refine sy (v := Ad (bs g1) (0)) (y_assign rfl) ?_
 refine c_nil ?_
 refine n_then ?_
 refine c_seq ?_
 refine c_reg ?_
 refine sy (v := Ad (bs g1) (0)) (y_move rfl) ?_
 refine sy (v := v0) (y_move rfl) ?_
 refine st (ow_call fn96 rfl (broot_c g1 ([] : List (List UInt8)) [(g1, Rw 120 [.slice none 0 0])] v0 cs _ (bk_new g1) (fun p hp => H3.own _ List.mem_cons_self p hp) (hC.awayX H3) (by first | omega | (simp only [List.length_append, List.length_cons, List.length_nil, List.length_take, List.length_drop]; omega))) ⟨rfl, rfl, trivial⟩) ?_
 rintro _ w5 ⟨rfl, E4, hK7, H6⟩
 have H8 : St w _ [_] w5 := H3.appE H6
 refine c_nil ?_
 refine n_then ?_
 refine c_seq ?_
 refine c_reg ?_
 refine sy (v := Ad (bs g1) (0)) (y_move rfl) ?_
 refine sy (v := v1) (y_move rfl) ?_
 refine st (ow_call fn96 rfl (broot_c g1 (([] : List (List UInt8)) ++ (rowsR (cs.map (fun q : Cl => q.c)))) E4 v1 ds _ hK7 (fun p hp => H8.own _ List.mem_cons_self p hp) (hD.awayX H8) (by first | omega | (simp only [List.length_append, List.length_cons, List.length_nil, List.length_take, List.length_drop]; omega))) ⟨rfl, rfl, trivial⟩) ?_
 rintro _ w10 ⟨rfl, E9, hK12, H11⟩
 have H13 : St w _ [_] w10 := H8.appE H11
 refine c_nil ?_
 refine n_then ?_
 refine c_seq ?_
 refine c_reg ?_
 refine sy (v := Ad (bs g1) (0)) (y_move rfl) ?_
 refine sy (v := Ad (bs g1) (0)) (y_nilCheck rfl) ?_
 refine sy (v := Ad (bs g1) (0 + 0)) (y_fld Try.underlying120 rfl rfl sz36 (by decide) rfl) ?_
 obtain ⟨rv, vs, hg14, hvR, hrR, hvlR⟩ := hK12.rd H13 0 rfl
 simp only [List.nil_append] at hvR hrR hvlR
 refine sy (v := rv) (y_load sc36 rfl (cell_rw hg14 0)) ?_
 refine st (ow_call fn98 rfl (twice_c rv vs (rowsR (cs.map (·.c)) ++ rowsR (ds.map (·.c))) _ hvR hrR hvlR (by rw [List.length_append]; omega) hrl) ⟨rfl, trivial⟩) ?_
 rintro _ w16 ⟨b15, rfl, hx18, hB17⟩
 have H19 : St w _ [_] w16 := H13.call hB17
 refine sy (v := .bool (b15)) (y_assign rfl) ?_
 refine c_nil ?_
 refine n_then ?_
 refine wp_ret ?_
 refine e_r1 Try.results71 (rv_t rfl) ?_
 exact ⟨_, rfl, _, rfl, hx18, H19.below⟩

end Go.Proofs.Ytdcmbcjkdhdohaa
