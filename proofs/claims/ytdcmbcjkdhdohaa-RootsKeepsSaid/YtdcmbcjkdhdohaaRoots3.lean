/- Walks: roots.tree, root, Root; the fixed calls of the laws of layer 19. -/
import Derived.Test.YtdcmbcjkdhdohaaRoots2
namespace Go.Proofs.Ytdcmbcjkdhdohaa
open Go Go.RowKit
set_option linter.unusedSimpArgs false
set_option linter.unusedVariables false
attribute [local irreducible] wpList wpP Code.wp

theorem csr_nil {w : World} : CsR [] w (.slice none 0 0) [] := ⟨⟨rfl, ⟨_, _, rfl, Nat.le_refl _, by simp [maxLen]⟩, by simp, by simp⟩, by simp, by simp⟩
theorem St.oldB {w w0 : World} {L : List Part} {g : Nat} {o : Obj} (H : St w0 [] L w) (h : w0.heap[g]? = some o) : w.heap[g]? = some o :=
  (H.keep g (Array.getElem?_eq_some_iff.1 h).1 (by simp)).trans h
theorem tree_one {cs : List Cl} (h : cs.length = 1) : treeH (cs.map (·.c)) = leafH (cs.getD 0 c0).c := by
  match cs, h with
  | [c], _ => exact treeH_one _
theorem tree_more {cs : List Cl} (h : ¬ cs.length = 1) (h0 : 0 < cs.length) : treeH (cs.map (·.c)) = innerH (treeH ((cs.take (half cs.length)).map (·.c))) (treeH ((cs.drop (half cs.length)).map (·.c))) := by
  rw [treeH_more (by rw [List.length_map]; omega), List.length_map, List.map_take, List.map_drop]
theorem root_nil {cs : List Cl} (h : cs.length = 0) : rootH (cs.map (·.c)) = topH 0 [] := by unfold rootH; rw [if_pos (by rw [List.length_map]; exact h)]
theorem root_more {cs : List Cl} (h : ¬ cs.length = 0) : rootH (cs.map (·.c)) = topH cs.length (treeH (cs.map (·.c))) := by unfold rootH; rw [if_neg (by rw [List.length_map]; exact h), List.length_map]
theorem rootA_no {l : List Ce} (h : wrong l ≠ 0) : rootA l = List.replicate 32 0 := by unfold rootA; rw [if_neg h]
theorem rootA_yes {l : List Ce} (h : wrong l = 0) : rootA l = rootH l := by unfold rootA; rw [if_pos h]
theorem wrong_nil : wrong [] = 0 := wrong_0 (fun c hc => absurd hc (by simp)) (fun i a b h => by simp at h)

def bce : List Cl := [⟨⟨1, [98], []⟩, .slice none 0 0⟩, ⟨⟨1, [97], []⟩, .slice none 0 0⟩]
theorem bce_csr {w w0 : World} {X : List Nat} {L : List Part} {g i : Nat} (H : St w0 X L w) (hi : L[i]? = some [(g, Rw 48 (bce.flatMap Cl.cs))]) : CsR [] w (.slice (some (bs g)) 2 2) bce :=
  ⟨H.rd (n := 2) (s := 3) (cap := 2) i hi (by decide) ⟨Nat.le_refl _, by simp [maxLen]⟩, fun c hc => by
    have hv : c.v = .slice none 0 0 ∧ c.c.l = [] ∧ c.c.key.length ≤ 1 := by
      simp only [bce, List.mem_cons, List.not_mem_nil, or_false] at hc
      rcases hc with rfl | rfl <;> exact ⟨rfl, rfl, by simp⟩
    refine ⟨?_, by unfold small; rw [hv.2.1]; simp; omega⟩
    rw [hv.1, hv.2.1]
    exact rd8_nil, by decide⟩
theorem bce_wrong : wrong (bce.map (·.c)) ≠ 0 := by
  have h : ¬ ordered (bce.map (·.c)) := not_ord (i := 1) (by omega) (by decide) (by decide)
  by_cases hk : kinds (bce.map (·.c))
  · rw [wrong_130 hk h]; decide
  · rw [wrong_40 hk]; decide
def nine : List UInt8 := [2, 0, 0, 0, 0, 0, 0, 0, 0]
theorem nine_root : rootA (([] : List Cl).map (·.c)) = sha nine := by
  show rootA [] = _
  rw [rootA_yes wrong_nil]
  rfl

attribute [local irreducible] leafH innerH topH rootH rootA sha

theorem tree1_step (gf : Nat) (v0 : Value) (cs : List Cl) (w : World) (hC : CsR [] w v0 cs) (hpos : 0 < cs.length) (hf : w.heap[gf]? = some (Rw 106 [(.func (.func 139) #[] (#[Ad (bs gf) 0] : Array Value))])) (IH : ∀ (cs' : List Cl) (v' : Value) (w' : World), cs'.length < cs.length → 0 < cs'.length → CsR [] w' v' cs' → w'.heap[gf]? = some (Rw 106 [(.func (.func 139) #[] (#[Ad (bs gf) 0] : Array Value))]) → Calls Try.prog 139 (([v', Ad (bs gf) 0] : List Value).toArray) w' (fun e w'' => ∃ v, e = .returned v ∧ v = .agg ((treeH (cs'.map (·.c))).map B8).toArray ∧ Below w'.heap.size w' w'')) :
    Calls Try.prog 139 (([v0, Ad (bs gf) (0)] : List Value).toArray) w (fun e w' => ∃ v, e = .returned v ∧ v = .agg ((treeH (cs.map (·.c))).map B8).toArray ∧ Below w.heap.size w w') := by
 have hle := hC.le
 have hh2 := half_pos cs.length
 refine calls_mk Try.func139 rfl 26 Try.ntmps139 rfl ?_
 have H0 : St w [] [] w := St.refl w
 refine c_seq ?_
 refine c_reg ?_
 refine st (ow_alloc (l := (List.replicate 32 0).map B8) H0 zr26 (by simp [Value.cells])) ?_
 rintro _ w2 ⟨g1, rfl, H3⟩
 refine c_nil ?_
 refine n_then ?_
 refine c_seq ?_
 refine c_seq ?_
 refine c_reg ?_
 refine sy (v := v0) (y_move rfl) ?_
 refine sy (v := I ((cs.length : Nat) : Int)) (y_lenR Try.underlying38 (hC.st H3).rd rfl) ?_
 refine sy (v := .bool (decide (cs.length = 1))) (n_eql (a := cs.length) (b := 1) rfl rfl) ?_
 refine c_nil ?_
 refine n_then ?_
 refine c_if rfl (fun hc4 => ?_) (fun hc4 => ?_)
 ·
  refine c_seq ?_
  refine c_reg ?_
  refine sy (v := v0) (y_move rfl) ?_
  refine sy (v := Ad (sp (v0)) (0 * 3)) (y_ixR (m := 0) Try.underlying38 sz48 (hC.st H3).rd (by decide) rfl rfl rfl (by omega)) ?_
  refine sy (v := .agg ([I ((cs.getD 0 c0).c.k), .string (bst ((cs.getD 0 c0).c.key)), (cs.getD 0 c0).v]).toArray) (y_loadA (us := (cs.getD 0 c0).cs) ag48 sz48 rfl rfl (fun j u hu => (hC.st H3).rd.cell _ _ (flat3_get (by omega) hu))) ?_
  refine st (ow_call fn123 rfl (leaf_c (cs.getD 0 c0) _ (CR.st (hC.at (d := c0) (i := 0) (by omega)) H3).nil) ⟨rfl, trivial⟩) ?_
  rintro _ w5 ⟨rfl, hB6⟩
  have H7 : St w _ [_] w5 := H3.call hB6
  refine s0 (ow_storeW (us := (leafH (cs.getD 0 c0).c).map B8) H7 sz26 ((List.length_map _).trans (leafH_len (cs.getD 0 c0).c)) rfl rfl (map_one (F := B8) (fun _ => rfl) _) ((List.length_map _).trans List.length_replicate)) ?_
  rintro _ w8 H9'
  have H9 : St w _ [[(g1, Rw 26 ((leafH (cs.getD 0 c0).c).map B8))]] w8 := H9'
  refine c_nil ?_
  refine n_then ?_
  refine wp_ret ?_
  refine r_then ?_
  refine e_r1 Try.results139 (rv_b H9 (i := 0) rfl ag26 sz26 ((List.length_map _).trans (leafH_len (cs.getD 0 c0).c)) rfl) ?_
  exact ⟨_, rfl, by rw [tree_one (by omega)], H9.below⟩
 ·
  have hh1 := half_lt (n := cs.length) (by omega)
  refine wp_skip ?_
  refine n_then ?_
  refine c_seq ?_
  refine c_reg ?_
  refine sy (v := v0) (y_move rfl) ?_
  refine sy (v := I ((cs.length : Nat) : Int)) (y_lenR Try.underlying38 (hC.st H3).rd rfl) ?_
  refine st (ow_call fn128 rfl (half_c (cs.length) _ (by omega) (by omega)) ⟨rfl, trivial⟩) ?_
  rintro _ w10 ⟨rfl, hB11⟩
  have H12 : St w _ [_] w10 := H3.call hB11
  refine sy (v := I ((half cs.length : Nat) : Int)) (y_assign rfl) ?_
  refine c_nil ?_
  refine n_then ?_
  refine c_seq ?_
  refine drawS (.step 0 0 (.step 0 1 (.step 0 2 (.step 0 3 (.step 0 5 (.step 0 6 (.step 0 7 (.step 0 8 (.step 1 4 (.step 1 9 (.step 1 10 (.step 2 11 .nil)))))))))))) mixed H12 (by kernel_rfl) (by kernel_rfl) (by kernel_rfl) ?_
  intro w13 H14
  refine pt (v := .func (.func 139) #[] (#[Ad (bs gf) 0] : Array Value)) rfl (fun wS HS => y_load sc106 rfl (HS.oldCell hf (by simp) rfl)) ?_
  refine pt (v := v0) rfl (fun wS HS => y_move rfl) ?_
  refine pt (v := I ((half cs.length : Nat) : Int)) rfl (fun wS HS => y_move rfl) ?_
  refine pt (v := slv 3 0 (half cs.length) v0) rfl (fun wS HS => y_slR (k1 := .i64) (k2 := .i64) (l := 0) (h := half cs.length) Try.underlying38 sz48 (hC.st HS).rd rfl (.inl ⟨rfl, rfl⟩) (.inr ⟨_, rfl, rfl⟩) (by omega) (by omega)) ?_
  refine pt (v := .func (.func 139) #[] (#[Ad (bs gf) 0] : Array Value)) rfl (fun wS HS => y_load sc106 rfl (HS.oldCell hf (by simp) rfl)) ?_
  refine pt (v := v0) rfl (fun wS HS => y_move rfl) ?_
  refine pt (v := I ((half cs.length : Nat) : Int)) rfl (fun wS HS => y_move rfl) ?_
  refine pt (v := slv 3 (half cs.length) cs.length v0) rfl (fun wS HS => y_slR (k1 := .i64) (k2 := .i64) (l := half cs.length) (h := cs.length) Try.underlying38 sz48 (hC.st HS).rd rfl (.inr ⟨_, rfl, rfl⟩) (.inl ⟨rfl, rfl⟩) (by omega) (by omega)) ?_
  refine pl rfl (ow_callC (args := [slv 3 0 (half cs.length) v0]) (cap := [Ad (bs gf) 0]) fn139 rfl (IH (cs.take (half cs.length)) (slv 3 0 (half cs.length) v0) _ (by simp only [List.length_take, List.length_drop]; omega) (by simp only [List.length_take, List.length_drop]; omega) ((hC.pre (m := half cs.length) (by omega)).st H14).nil (H14.oldB hf)) ⟨rfl, trivial⟩) ?_
  rintro _ w15 ⟨rfl, hB16⟩
  have H17 : St w _ [_] w15 := H14.call hB16
  refine ⟨H17, ?_⟩
  refine pl rfl (ow_callC (args := [slv 3 (half cs.length) cs.length v0]) (cap := [Ad (bs gf) 0]) fn139 rfl (IH (cs.drop (half cs.length)) (slv 3 (half cs.length) cs.length v0) _ (by simp only [List.length_take, List.length_drop]; omega) (by simp only [List.length_take, List.length_drop]; omega) ((hC.suf (m := half cs.length) (by omega)).st H17).nil (H17.oldB hf)) ⟨rfl, trivial⟩) ?_
  rintro _ w18 ⟨rfl, hB19⟩
  have H20 : St w _ [_] w18 := H17.call hB19
  refine ⟨H20, ?_⟩
  refine pl rfl (ow_call fn140 rfl (inner_c (treeH ((cs.take (half cs.length)).map (fun q : Cl => q.c))) (treeH ((cs.drop (half cs.length)).map (fun q : Cl => q.c))) _ (treeH_len ((cs.take (half cs.length)).map (fun q : Cl => q.c))) (treeH_len ((cs.drop (half cs.length)).map (fun q : Cl => q.c)))) ⟨rfl, rfl, trivial⟩) ?_
  rintro _ w21 ⟨rfl, hB22⟩
  have H23 : St w _ [_] w21 := H20.call hB22
  refine ⟨H23, ?_⟩
  refine t0 rfl (ow_storeW (us := (innerH (treeH ((cs.take (half cs.length)).map (fun q : Cl => q.c))) (treeH ((cs.drop (half cs.length)).map (fun q : Cl => q.c)))).map B8) H23 sz26 ((List.length_map _).trans (innerH_len (treeH ((cs.take (half cs.length)).map (fun q : Cl => q.c))) (treeH ((cs.drop (half cs.length)).map (fun q : Cl => q.c))))) rfl rfl (map_one (F := B8) (fun _ => rfl) _) ((List.length_map _).trans List.length_replicate)) ?_
  rintro _ w24 H25'
  have H25 : St w _ [[(g1, Rw 26 ((innerH (treeH ((cs.take (half cs.length)).map (fun q : Cl => q.c))) (treeH ((cs.drop (half cs.length)).map (fun q : Cl => q.c)))).map B8))]] w24 := H25'
  refine p_nil ?_
  refine n_then ?_
  refine wp_ret ?_
  refine e_r1 Try.results139 (rv_b H25 (i := 0) rfl ag26 sz26 ((List.length_map _).trans (innerH_len (treeH ((cs.take (half cs.length)).map (fun q : Cl => q.c))) (treeH ((cs.drop (half cs.length)).map (fun q : Cl => q.c))))) rfl) ?_
  exact ⟨_, rfl, by rw [tree_more (by omega) hpos], H25.below⟩

theorem tree1_c (gf : Nat) : ∀ (m : Nat) (cs : List Cl) (v : Value) (w : World), cs.length ≤ m → 0 < cs.length → CsR [] w v cs → w.heap[gf]? = some (Rw 106 [(.func (.func 139) #[] (#[Ad (bs gf) 0] : Array Value))]) →
    Calls Try.prog 139 (([v, Ad (bs gf) 0] : List Value).toArray) w (fun e w' => ∃ v, e = .returned v ∧ v = .agg ((treeH (cs.map (·.c))).map B8).toArray ∧ Below w.heap.size w w') := by
  intro m
  induction m with
  | zero => intro cs v w h1 h2; omega
  | succ m ih => intro cs v w h1 h2 h3 h4; exact tree1_step gf v cs w h3 h2 h4 (fun cs' v' w' q1 q2 q3 q4 => ih cs' v' w' (by omega) q2 q3 q4)

theorem tree_c (v0 : Value) (cs : List Cl) (w : World) (hC : CsR [] w v0 cs) (hpos : 0 < cs.length) :
    Calls Try.prog 120 (([v0] : List Value).toArray) w (fun e w' => ∃ v, e = .returned v ∧ v = .agg ((treeH (cs.map (·.c))).map B8).toArray ∧ Below w.heap.size w w') := by
 have hle := hC.le
 refine calls_mk Try.func120 rfl 8 Try.ntmps120 rfl ?_
 have H0 : St w [] [] w := St.refl w
 refine c_seq ?_
 refine c_reg ?_
 refine st (ow_alloc (l := (List.replicate 32 0).map B8) H0 zr26 (by simp [Value.cells])) ?_
 rintro _ w2 ⟨g1, rfl, H3⟩
 refine c_nil ?_
 refine n_then ?_
 refine c_seq ?_
 refine c_reg ?_
 refine st (ow_alloc (l := [.nilFunc]) H3 zr106 rfl) ?_
 rintro _ w5 ⟨g4, rfl, H6⟩
 refine c_nil ?_
 refine n_then ?_
 refine c_seq ?_
 refine c_reg ?_
 refine sy (v := .func (.func 139) #[] (#[Ad (bs g4) (0)] : Array Value)) (y_makeFunc (cs := [Ad (bs g4) (0)]) ⟨rfl, trivial⟩) ?_
 refine s0 (ow_store (j := 0) H6 sz106 rfl rfl rfl rfl (by simp)) ?_
 rintro _ w7 H8'
 have H8 : St w _ [[(g4, Rw 106 ([.func (.func 139) #[] (#[Ad (bs g4) (0)] : Array Value)]))], _] w7 := H8'
 refine c_nil ?_
 refine n_then ?_
 refine c_seq ?_
 refine c_reg ?_
 refine sy (v := .func (.func 139) #[] (#[Ad (bs g4) (0)] : Array Value)) (y_load sc106 rfl (H8.cell 0 rfl rfl)) ?_
 refine sy (v := v0) (y_move rfl) ?_
 refine st (ow_callC (args := [v0]) (cap := [Ad (bs g4) (0)]) fn139 rfl (tree1_c g4 _ (cs) (v0) _ (Nat.le_refl _) hpos (hC.st H8).nil (H8.get 0 rfl)) ⟨rfl, trivial⟩) ?_
 rintro _ w9 ⟨rfl, hB10⟩
 have H11 : St w _ [_, _] w9 := H8.call hB10
 have H12 : St w _ [_, _] w9 := H11.foc 1 rfl rfl
 refine s0 (ow_storeW (us := (treeH (cs.map (fun q : Cl => q.c))).map B8) H12 sz26 ((List.length_map _).trans (treeH_len (cs.map (fun q : Cl => q.c)))) rfl rfl (map_one (F := B8) (fun _ => rfl) _) ((List.length_map _).trans List.length_replicate)) ?_
 rintro _ w13 H14'
 have H14 : St w _ [[(g1, Rw 26 ((treeH (cs.map (fun q : Cl => q.c))).map B8))], _] w13 := H14'
 refine c_nil ?_
 refine n_then ?_
 refine wp_ret ?_
 refine e_r1 Try.results120 (rv_b H14 (i := 0) rfl ag26 sz26 ((List.length_map _).trans (treeH_len (cs.map (fun q : Cl => q.c)))) rfl) ?_
 exact ⟨_, rfl, rfl, H14.below⟩

theorem root_c (v0 : Value) (cs : List Cl) (w : World) (hC : CsR [] w v0 cs) :
    Calls Try.prog 82 (([v0] : List Value).toArray) w (fun e w' => ∃ v, e = .returned v ∧ v = .agg ((rootH (cs.map (·.c))).map B8).toArray ∧ Below w.heap.size w w') := by
 have hle := hC.le
 have htl := treeH_len (cs.map (·.c))
 refine calls_mk Try.func82 rfl 14 Try.ntmps82 rfl ?_
 have H0 : St w [] [] w := St.refl w
 refine c_seq ?_
 refine c_reg ?_
 refine st (ow_alloc (l := (List.replicate 32 0).map B8) H0 zr26 (by simp [Value.cells])) ?_
 rintro _ w2 ⟨g1, rfl, H3⟩
 refine c_nil ?_
 refine n_then ?_
 refine c_seq ?_
 refine c_seq ?_
 refine c_reg ?_
 refine sy (v := v0) (y_move rfl) ?_
 refine sy (v := I ((cs.length : Nat) : Int)) (y_lenR Try.underlying38 (hC.st H3).rd rfl) ?_
 refine sy (v := .bool (decide (cs.length = 0))) (n_eql (a := cs.length) (b := 0) rfl rfl) ?_
 refine c_nil ?_
 refine n_then ?_
 refine c_if rfl (fun hc4 => ?_) (fun hc4 => ?_)
 ·
  refine c_seq ?_
  refine c_reg ?_
  refine st (ow_call fn87 rfl (top_c (0) (.slice none 0 0) (([] : List UInt8)) _ rd8_nil (by simp) (by omega)) ⟨rfl, rfl, trivial⟩) ?_
  rintro _ w5 ⟨rfl, hB6⟩
  have H7 : St w _ [_] w5 := H3.call hB6
  refine s0 (ow_storeW (us := (topH 0 ([] : List UInt8)).map B8) H7 sz26 ((List.length_map _).trans (topH_len 0 ([] : List UInt8))) rfl rfl (map_one (F := B8) (fun _ => rfl) _) ((List.length_map _).trans List.length_replicate)) ?_
  rintro _ w8 H9'
  have H9 : St w _ [[(g1, Rw 26 ((topH 0 ([] : List UInt8)).map B8))]] w8 := H9'
  refine c_nil ?_
  refine n_then ?_
  refine wp_ret ?_
  refine r_then ?_
  refine e_r1 Try.results82 (rv_b H9 (i := 0) rfl ag26 sz26 ((List.length_map _).trans (topH_len 0 ([] : List UInt8))) rfl) ?_
  exact ⟨_, rfl, by rw [root_nil (by omega)], H9.below⟩
 ·
  refine wp_skip ?_
  refine n_then ?_
  refine c_seq ?_
  refine c_reg ?_
  refine sy (v := v0) (y_move rfl) ?_
  refine st (ow_call fn120 rfl (tree_c (v0) (cs) _ (hC.st H3).nil (by first | omega | (simp only [List.length_take, List.length_drop]; omega))) ⟨rfl, trivial⟩) ?_
  rintro _ w10 ⟨rfl, hB11⟩
  have H12 : St w _ [_] w10 := H3.call hB11
  refine st (ow_alloc (l := (List.replicate 32 0).map B8) H12 zr26 (by simp [Value.cells])) ?_
  rintro _ w14 ⟨g13, rfl, H15⟩
  refine s0 (ow_storeW (us := (treeH (cs.map (fun q : Cl => q.c))).map B8) H15 sz26 ((List.length_map _).trans (treeH_len (cs.map (fun q : Cl => q.c)))) rfl rfl (map_one (F := B8) (fun _ => rfl) _) ((List.length_map _).trans List.length_replicate)) ?_
  rintro _ w16 H17'
  have H17 : St w _ [[(g13, Rw 26 ((treeH (cs.map (fun q : Cl => q.c))).map B8))], _] w16 := H17'
  refine c_nil ?_
  refine n_then ?_
  refine c_seq ?_
  refine c_reg ?_
  refine sy (v := v0) (y_move rfl) ?_
  refine sy (v := I ((cs.length : Nat) : Int)) (y_lenR Try.underlying38 (hC.st H17).rd rfl) ?_
  refine sy (v := .slice (some (bs g13)) 32 32) (y_slA (k1 := .i64) (k2 := .i64) (l := 0) (h := 32) Try.underlying26 sz5 rfl (.inl ⟨rfl, rfl⟩) (.inl ⟨rfl, rfl⟩) (by omega) (by omega)) ?_
  refine st (ow_call fn87 rfl (top_c (cs.length) (.slice (some (bs g13)) 32 32) (treeH (cs.map (fun q : Cl => q.c))) _ ((rd_arr H17 0 rfl (treeH_len (cs.map (fun q : Cl => q.c))) (by unfold maxLen; omega))).nil (by first | omega | (simp only [List.length_append, List.length_cons, List.length_nil, List.length_take, List.length_drop, hmac_length, sha_length, List.length_replicate]; omega)) (by omega)) ⟨rfl, rfl, trivial⟩) ?_
  rintro _ w18 ⟨rfl, hB19⟩
  have H20 : St w _ [_, _] w18 := H17.call hB19
  have H21 : St w _ [_, _] w18 := H20.foc 1 rfl rfl
  refine s0 (ow_storeW (us := (topH cs.length (treeH (cs.map (fun q : Cl => q.c)))).map B8) H21 sz26 ((List.length_map _).trans (topH_len cs.length (treeH (cs.map (fun q : Cl => q.c))))) rfl rfl (map_one (F := B8) (fun _ => rfl) _) ((List.length_map _).trans List.length_replicate)) ?_
  rintro _ w22 H23'
  have H23 : St w _ [[(g1, Rw 26 ((topH cs.length (treeH (cs.map (fun q : Cl => q.c)))).map B8))], _] w22 := H23'
  refine c_nil ?_
  refine n_then ?_
  refine wp_ret ?_
  refine e_r1 Try.results82 (rv_b H23 (i := 0) rfl ag26 sz26 ((List.length_map _).trans (topH_len cs.length (treeH (cs.map (fun q : Cl => q.c))))) rfl) ?_
  exact ⟨_, rfl, by rw [root_more (by omega)], H23.below⟩

theorem Root_c (v0 : Value) (cs : List Cl) (w : World) (hC : CsR [] w v0 cs) :
    Calls Try.prog 32 (([v0] : List Value).toArray) w (fun e w' => ∃ v, e = .returned v ∧ v = .tuple #[.agg ((rootA (cs.map (·.c))).map B8).toArray, I ((wrong (cs.map (·.c)) : Nat) : Int)] ∧ Below w.heap.size w w') := by
 have hle := hC.le
 refine calls_mk Try.func32 rfl 13 Try.ntmps32 rfl ?_
 have H0 : St w [] [] w := St.refl w
 refine c_seq ?_
 refine c_reg ?_
 refine st (ow_alloc (l := (List.replicate 32 0).map B8) H0 zr26 (by simp [Value.cells])) ?_
 rintro _ w2 ⟨g1, rfl, H3⟩
 refine sy (v := I ((0 : Nat) : Int)) (y_assign (v := I ((0 : Nat) : Int)) rfl) ?_
 refine c_nil ?_
 refine n_then ?_
 refine c_seq ?_
 refine c_seq ?_
 refine c_reg ?_
 refine sy (v := v0) (y_move rfl) ?_
 refine st (ow_call fn81 rfl (right_c19 (v0) (cs) _ (hC.st H3).nil) ⟨rfl, trivial⟩) ?_
 rintro _ w4 ⟨rfl, hB5⟩
 have H6 : St w _ [_] w4 := H3.call hB5
 refine sy (v := I ((wrong (cs.map (fun q : Cl => q.c)) : Nat) : Int)) (y_assign rfl) ?_
 refine c_nil ?_
 refine n_then ?_
 refine c_seq ?_
 refine c_reg ?_
 refine sy (v := I ((wrong (cs.map (fun q : Cl => q.c)) : Nat) : Int)) (y_move rfl) ?_
 refine sy (v := .bool (decide ((wrong (cs.map (fun q : Cl => q.c))) ≠ 0))) (n_neq (a := wrong (cs.map (fun q : Cl => q.c))) (b := 0) rfl rfl) ?_
 refine c_nil ?_
 refine n_then ?_
 refine c_if rfl (fun hc7 => ?_) (fun hc7 => ?_)
 ·
  refine c_seq ?_
  refine c_reg ?_
  refine sy (v := .agg (([0, 0, 0, 0, 0, 0, 0, 0, 0, 0, 0, 0, 0, 0, 0, 0, 0, 0, 0, 0, 0, 0, 0, 0, 0, 0, 0, 0, 0, 0, 0, 0]).map B8).toArray) (y_build (parts := []) (pv := []) (us := ([0, 0, 0, 0, 0, 0, 0, 0, 0, 0, 0, 0, 0, 0, 0, 0, 0, 0, 0, 0, 0, 0, 0, 0, 0, 0, 0, 0, 0, 0, 0, 0]).map B8) trivial (by kernel_rfl)) ?_
  refine sy (v := I ((wrong (cs.map (fun q : Cl => q.c)) : Nat) : Int)) (y_move rfl) ?_
  refine s0 (ow_storeW (us := ([0, 0, 0, 0, 0, 0, 0, 0, 0, 0, 0, 0, 0, 0, 0, 0, 0, 0, 0, 0, 0, 0, 0, 0, 0, 0, 0, 0, 0, 0, 0, 0]).map B8) H6 sz26 (by simp [*]) rfl rfl (map_one (F := B8) (fun _ => rfl) _) ((List.length_map _).trans List.length_replicate)) ?_
  rintro _ w8 H9'
  have H9 : St w _ [[(g1, Rw 26 (([0, 0, 0, 0, 0, 0, 0, 0, 0, 0, 0, 0, 0, 0, 0, 0, 0, 0, 0, 0, 0, 0, 0, 0, 0, 0, 0, 0, 0, 0, 0, 0]).map B8))]] w8 := H9'
  refine sy (v := I ((wrong (cs.map (fun q : Cl => q.c)) : Nat) : Int)) (y_assign rfl) ?_
  refine c_nil ?_
  refine n_then ?_
  refine wp_ret ?_
  refine r_then ?_
  refine e_r2 Try.results32 (rv_b H9 (i := 0) rfl ag26 sz26 (by simp [*]) rfl) (rv_t rfl) ?_
  have hq := rootA_no (l := cs.map (·.c)) (by assumption)
  exact ⟨_, rfl, by rw [hq]; rfl, H9.below⟩
 ·
  refine wp_skip ?_
  refine n_then ?_
  refine c_seq ?_
  refine c_reg ?_
  refine sy (v := v0) (y_move rfl) ?_
  refine st (ow_call fn82 rfl (root_c (v0) (cs) _ (hC.st H6).nil) ⟨rfl, trivial⟩) ?_
  rintro _ w10 ⟨rfl, hB11⟩
  have H12 : St w _ [_] w10 := H6.call hB11
  refine s0 (ow_storeW (us := (rootH (cs.map (fun q : Cl => q.c))).map B8) H12 sz26 ((List.length_map _).trans (rootH_len (cs.map (fun q : Cl => q.c)))) rfl rfl (map_one (F := B8) (fun _ => rfl) _) ((List.length_map _).trans List.length_replicate)) ?_
  rintro _ w13 H14'
  have H14 : St w _ [[(g1, Rw 26 ((rootH (cs.map (fun q : Cl => q.c))).map B8))]] w13 := H14'
  refine sy (v := I ((0 : Nat) : Int)) (y_assign (v := I ((0 : Nat) : Int)) rfl) ?_
  refine c_nil ?_
  refine n_then ?_
  refine wp_ret ?_
  refine e_r2 Try.results32 (rv_b H14 (i := 0) rfl ag26 sz26 ((List.length_map _).trans (rootH_len (cs.map (fun q : Cl => q.c)))) rfl) (rv_t rfl) ?_
  have hw : wrong (cs.map (·.c)) = 0 := by omega
  have hq := rootA_yes hw
  exact ⟨_, rfl, by rw [hq, hw]; rfl, H14.below⟩

set_option maxHeartbeats 1000000 in
theorem fixed19_c (w : World) :
    Calls Try.prog 34 (([] : List Value).toArray) w (fun e w' => ∃ v, e = .returned v ∧ v = .bool true ∧ Below w.heap.size w w') := by
 refine calls_mk Try.func34 rfl 35 Try.ntmps34 rfl ?_
 have H0 : St w [] [] w := St.refl w
 refine c_seq ?_
 refine c_reg ?_
 refine sy (v := .bool (false)) (y_assign (v := .bool (false)) rfl) ?_
 refine c_nil ?_
 refine n_then ?_
 refine c_seq ?_
 refine c_reg ?_
 refine st (ow_call fn32 rfl (Root_c (.slice none 0 0) [] _ csr_nil) ⟨rfl, trivial⟩) ?_
 rintro _ w1 ⟨rfl, hB2⟩
 have H3 : St w _ [] w1 := H0.call hB2
 refine sy (v := .tuple #[.agg ((rootA (([] : List Cl).map (fun q : Cl => q.c))).map B8).toArray, I ((wrong (([] : List Cl).map (fun q : Cl => q.c)) : Nat) : Int)]) (y_move rfl) ?_
 refine sy (v := .agg ((rootA (([] : List Cl).map (fun q : Cl => q.c))).map B8).toArray) (y_extract (i := 0) rfl rfl) ?_
 refine sy (v := I ((wrong (([] : List Cl).map (fun q : Cl => q.c)) : Nat) : Int)) (y_extract (i := 1) rfl rfl) ?_
 refine st (ow_alloc (l := (List.replicate 32 0).map B8) H3 zr26 (by simp [Value.cells])) ?_
 rintro _ w5 ⟨g4, rfl, H6⟩
 refine s0 (ow_storeW (us := (rootA (([] : List Cl).map (fun q : Cl => q.c))).map B8) H6 sz26 ((List.length_map _).trans (rootA_len (([] : List Cl).map (fun q : Cl => q.c)))) rfl rfl (map_one (F := B8) (fun _ => rfl) _) ((List.length_map _).trans List.length_replicate)) ?_
 rintro _ w7 H8'
 have H8 : St w _ [[(g4, Rw 26 ((rootA (([] : List Cl).map (fun q : Cl => q.c))).map B8))]] w7 := H8'
 refine sy (v := I ((wrong (([] : List Cl).map (fun q : Cl => q.c)) : Nat) : Int)) (y_assign rfl) ?_
 refine c_nil ?_
 refine n_then ?_
 refine c_seq ?_
 refine c_reg ?_
 refine sy (v := .agg ([I ((1 : Nat) : Int), .string (⟨#[98]⟩), .slice none 0 0]).toArray) (y_build (pv := [(0, I ((1 : Nat) : Int)), (1, .string (⟨#[98]⟩))]) (us := [I ((1 : Nat) : Int), .string (⟨#[98]⟩), .slice none 0 0]) ⟨⟨rfl, rfl⟩, ⟨rfl, rfl⟩, trivial⟩ (by kernel_rfl)) ?_
 refine sy (v := .agg ([I ((1 : Nat) : Int), .string (⟨#[97]⟩), .slice none 0 0]).toArray) (y_build (pv := [(0, I ((1 : Nat) : Int)), (1, .string (⟨#[97]⟩))]) (us := [I ((1 : Nat) : Int), .string (⟨#[97]⟩), .slice none 0 0]) ⟨⟨rfl, rfl⟩, ⟨rfl, rfl⟩, trivial⟩ (by kernel_rfl)) ?_
 refine st (ow_buildSlice (pv := [(0, .agg ([I ((1 : Nat) : Int), .string (⟨#[98]⟩), .slice none 0 0]).toArray), (1, .agg ([I ((1 : Nat) : Int), .string (⟨#[97]⟩), .slice none 0 0]).toArray)]) (us := bce.flatMap Cl.cs) Try.underlying38 sz48 zr48 H8 ⟨⟨rfl, rfl⟩, ⟨rfl, rfl⟩, trivial⟩ (by decide) (by kernel_rfl)) ?_
 rintro _ w10 ⟨g9, rfl, H11⟩
 refine st (ow_call fn32 rfl (Root_c (.slice (some (bs g9)) 2 2) bce _ (bce_csr H11 (i := 0) rfl)) ⟨rfl, trivial⟩) ?_
 rintro _ w12 ⟨rfl, hB13⟩
 have H14 : St w _ [_, _] w12 := H11.call hB13
 refine sy (v := .tuple #[.agg ((rootA (bce.map (·.c))).map B8).toArray, I ((wrong (bce.map (·.c)) : Nat) : Int)]) (y_move rfl) ?_
 refine sy (v := .agg ((rootA (bce.map (·.c))).map B8).toArray) (y_extract (i := 0) rfl rfl) ?_
 refine sy (v := I ((wrong (bce.map (·.c)) : Nat) : Int)) (y_extract (i := 1) rfl rfl) ?_
 refine st (ow_alloc (l := (List.replicate 32 0).map B8) H14 zr26 (by simp [Value.cells])) ?_
 rintro _ w16 ⟨g15, rfl, H17⟩
 refine s0 (ow_storeW (us := (rootA (bce.map (·.c))).map B8) H17 sz26 ((List.length_map _).trans (rootA_len (bce.map (·.c)))) rfl rfl (map_one (F := B8) (fun _ => rfl) _) ((List.length_map _).trans List.length_replicate)) ?_
 rintro _ w18 H19'
 have H19 : St w _ [[(g15, Rw 26 ((rootA (bce.map (·.c))).map B8))], _, _] w18 := H19'
 refine sy (v := I ((wrong (bce.map (·.c)) : Nat) : Int)) (y_assign rfl) ?_
 refine c_nil ?_
 refine n_then ?_
 refine c_seq ?_
 refine drawS (.step 0 0 (.step 0 1 (.step 0 2 (.step 0 3 (.step 1 4 (.step 1 5 (.step 0 6 (.step 0 7 (.step 0 8 (.step 0 9 (.step 1 10 (.step 1 11 (.step 0 12 (.step 0 13 (.step 0 14 (.step 0 15 (.step 0 16 (.step 0 17 (.step 0 18 (.step 2 19 .nil)))))))))))))))))))) mixed H19 (by kernel_rfl) (by kernel_rfl) (by kernel_rfl) ?_
 intro w20 H21
 refine pt (v := I ((wrong (([] : List Cl).map (fun q : Cl => q.c)) : Nat) : Int)) rfl (fun wS HS => y_move rfl) ?_
 refine pt (v := .bool (decide ((wrong (([] : List Cl).map (fun q : Cl => q.c))) = 0))) rfl (fun wS HS => n_eql (a := wrong (([] : List Cl).map (fun q : Cl => q.c))) (b := 0) rfl rfl) ?_
 refine pt (v := .bool (decide ((wrong (([] : List Cl).map (fun q : Cl => q.c))) = 0))) rfl (fun wS HS => y_move rfl) ?_
 have hq22 : (wrong (([] : List Cl).map (fun q : Cl => q.c))) = 0 := wrong_nil
 refine gpt (v := .agg ((rootA (([] : List Cl).map (fun q : Cl => q.c))).map B8).toArray) rfl (gv_of (t := 18) rfl rfl rfl) (decide_eq_true hq22) (fun wS HS => y_loadA (us := (rootA (([] : List Cl).map (fun q : Cl => q.c))).map B8) ag26 sz26 ((List.length_map _).trans (rootA_len (([] : List Cl).map (fun q : Cl => q.c)))) rfl (fun j u hu => (HS.cell 2 rfl (by rw [Nat.zero_add]; exact hu)))) ?_
 refine gpl rfl (gv_of (t := 18) rfl rfl rfl) (decide_eq_true hq22) (ow_buildSlice (pv := [(0, B8 (2)), (1, B8 (0)), (2, B8 (0)), (3, B8 (0)), (4, B8 (0)), (5, B8 (0)), (6, B8 (0)), (7, B8 (0)), (8, B8 (0))]) (us := [B8 (2), B8 (0), B8 (0), B8 (0), B8 (0), B8 (0), B8 (0), B8 (0), B8 (0)]) Try.underlying23 sz5 zr5 H21 ⟨⟨rfl, rfl⟩, ⟨rfl, rfl⟩, ⟨rfl, rfl⟩, ⟨rfl, rfl⟩, ⟨rfl, rfl⟩, ⟨rfl, rfl⟩, ⟨rfl, rfl⟩, ⟨rfl, rfl⟩, ⟨rfl, rfl⟩, trivial⟩ (by decide) (by kernel_rfl)) ?_
 rintro _ w24 ⟨g23, rfl, H25⟩
 have H26 : St w _ [_, _, _, _] w24 := H25.foc 3 rfl rfl
 have H27 : St w _ [_, _, _, _] w24 := H26.foc 3 rfl rfl
 have H28 : St w _ [_, _, _, _] w24 := H27.foc 3 rfl rfl
 have H29 : St w _ [_, _, _] w24 := H28.take 3 rfl
 refine ⟨H29, ?_⟩
 refine gpl rfl (gv_of (t := 18) rfl rfl rfl) (decide_eq_true hq22) (ow_call fn85 rfl (of_c (.slice (some (bs g23)) 9 9) nine _ (rd_lit (k := 9) (us := nine.map B8) H25 0 rfl rfl (by simp [maxLen])) (by decide)) ⟨rfl, trivial⟩) ?_
 rintro _ w30 ⟨rfl, hB31⟩
 have H32 : St w _ [_, _, _, _] w30 := H25.call hB31
 have H33 : St w _ [_, _, _, _] w30 := H32.foc 3 rfl rfl
 have H34 : St w _ [_, _, _, _] w30 := H33.foc 3 rfl rfl
 have H35 : St w _ [_, _, _, _] w30 := H34.foc 3 rfl rfl
 have H36 : St w _ [_, _, _] w30 := H35.take 3 rfl
 refine ⟨H36, ?_⟩
 refine gpt (v := .bool (decide ((rootA (([] : List Cl).map (fun q : Cl => q.c))) = (sha nine)))) rfl (gv_of (t := 18) rfl rfl rfl) (decide_eq_true hq22) (fun wS HS => y_eqlArr (l1 := rootA (([] : List Cl).map (fun q : Cl => q.c))) (l2 := sha nine) Try.underlying26 sz5 sc5 Try.underlying5 gt26 (rootA_len (([] : List Cl).map (fun q : Cl => q.c))) (sha_length _) rfl rfl) ?_
 refine pt (v := .bool (decide ((rootA (([] : List Cl).map (fun q : Cl => q.c))) = (sha nine)))) rfl (fun wS HS => y_pickT rfl (decide_eq_true hq22) rfl) ?_
 refine pt (v := .bool (decide ((rootA (([] : List Cl).map (fun q : Cl => q.c))) = (sha nine)))) rfl (fun wS HS => y_move rfl) ?_
 have hq37 : (rootA (([] : List Cl).map (fun q : Cl => q.c))) = (sha nine) := nine_root
 refine gpt (v := .agg ((rootA (([] : List Cl).map (fun q : Cl => q.c))).map B8).toArray) rfl (gv_of (t := 24) rfl rfl rfl) (decide_eq_true hq37) (fun wS HS => y_loadA (us := (rootA (([] : List Cl).map (fun q : Cl => q.c))).map B8) ag26 sz26 ((List.length_map _).trans (rootA_len (([] : List Cl).map (fun q : Cl => q.c)))) rfl (fun j u hu => (HS.cell 2 rfl (by rw [Nat.zero_add]; exact hu)))) ?_
 refine gpl rfl (gv_of (t := 24) rfl rfl rfl) (decide_eq_true hq37) (ow_buildSlice (pv := [(0, B8 (2)), (1, B8 (0)), (2, B8 (0)), (3, B8 (0)), (4, B8 (0)), (5, B8 (0)), (6, B8 (0)), (7, B8 (0)), (8, B8 (0))]) (us := [B8 (2), B8 (0), B8 (0), B8 (0), B8 (0), B8 (0), B8 (0), B8 (0), B8 (0)]) Try.underlying23 sz5 zr5 H32 ⟨⟨rfl, rfl⟩, ⟨rfl, rfl⟩, ⟨rfl, rfl⟩, ⟨rfl, rfl⟩, ⟨rfl, rfl⟩, ⟨rfl, rfl⟩, ⟨rfl, rfl⟩, ⟨rfl, rfl⟩, ⟨rfl, rfl⟩, trivial⟩ (by decide) (by kernel_rfl)) ?_
 rintro _ w39 ⟨g38, rfl, H40⟩
 have H41 : St w _ [_, _, _, _, _] w39 := H40.foc 4 rfl rfl
 have H42 : St w _ [_, _, _, _, _] w39 := H41.foc 4 rfl rfl
 have H43 : St w _ [_, _, _, _, _] w39 := H42.foc 4 rfl rfl
 have H44 : St w _ [_, _, _] w39 := H43.take 3 rfl
 refine ⟨H44, ?_⟩
 refine gpl rfl (gv_of (t := 24) rfl rfl rfl) (decide_eq_true hq37) (ow_call fn77 rfl (rof_c (.slice (some (bs g38)) 9 9) nine _ (rd_lit (k := 9) (us := nine.map B8) H40 0 rfl rfl (by simp [maxLen])) (by decide)) ⟨rfl, trivial⟩) ?_
 rintro _ w45 ⟨rfl, hB46⟩
 have H47 : St w _ [_, _, _, _, _] w45 := H40.call hB46
 have H48 : St w _ [_, _, _, _, _] w45 := H47.foc 4 rfl rfl
 have H49 : St w _ [_, _, _, _, _] w45 := H48.foc 4 rfl rfl
 have H50 : St w _ [_, _, _, _, _] w45 := H49.foc 4 rfl rfl
 have H51 : St w _ [_, _, _] w45 := H50.take 3 rfl
 refine ⟨H51, ?_⟩
 refine gpt (v := .bool (decide ((rootA (([] : List Cl).map (fun q : Cl => q.c))) = (sha nine)))) rfl (gv_of (t := 24) rfl rfl rfl) (decide_eq_true hq37) (fun wS HS => y_eqlArr (l1 := rootA (([] : List Cl).map (fun q : Cl => q.c))) (l2 := sha nine) Try.underlying26 sz5 sc5 Try.underlying5 gt26 (rootA_len (([] : List Cl).map (fun q : Cl => q.c))) (sha_length _) rfl rfl) ?_
 refine pt (v := .bool (decide ((rootA (([] : List Cl).map (fun q : Cl => q.c))) = (sha nine)))) rfl (fun wS HS => y_pickT rfl (decide_eq_true hq37) rfl) ?_
 refine pt (v := .bool (decide ((rootA (([] : List Cl).map (fun q : Cl => q.c))) = (sha nine)))) rfl (fun wS HS => y_move rfl) ?_
 refine gpt (v := .agg ((rootA (bce.map (·.c))).map B8).toArray) rfl (gv_of (t := 30) rfl rfl rfl) (decide_eq_true hq37) (fun wS HS => y_loadA (us := (rootA (bce.map (·.c))).map B8) ag26 sz26 ((List.length_map _).trans (rootA_len (bce.map (·.c)))) rfl (fun j u hu => (HS.cell 0 rfl (by rw [Nat.zero_add]; exact hu)))) ?_
 refine gpt (v := .agg (([0, 0, 0, 0, 0, 0, 0, 0, 0, 0, 0, 0, 0, 0, 0, 0, 0, 0, 0, 0, 0, 0, 0, 0, 0, 0, 0, 0, 0, 0, 0, 0]).map B8).toArray) rfl (gv_of (t := 30) rfl rfl rfl) (decide_eq_true hq37) (fun wS HS => y_build (parts := []) (pv := []) (us := ([0, 0, 0, 0, 0, 0, 0, 0, 0, 0, 0, 0, 0, 0, 0, 0, 0, 0, 0, 0, 0, 0, 0, 0, 0, 0, 0, 0, 0, 0, 0, 0]).map B8) trivial (by kernel_rfl)) ?_
 refine gpt (v := .bool (decide ((rootA (bce.map (·.c))) = ([0, 0, 0, 0, 0, 0, 0, 0, 0, 0, 0, 0, 0, 0, 0, 0, 0, 0, 0, 0, 0, 0, 0, 0, 0, 0, 0, 0, 0, 0, 0, 0])))) rfl (gv_of (t := 30) rfl rfl rfl) (decide_eq_true hq37) (fun wS HS => y_eqlArr (l1 := rootA (bce.map (·.c))) (l2 := [0, 0, 0, 0, 0, 0, 0, 0, 0, 0, 0, 0, 0, 0, 0, 0, 0, 0, 0, 0, 0, 0, 0, 0, 0, 0, 0, 0, 0, 0, 0, 0]) Try.underlying26 sz5 sc5 Try.underlying5 gt26 (rootA_len (bce.map (·.c))) (by simp [*]) rfl rfl) ?_
 refine pt (v := .bool (decide ((rootA (bce.map (·.c))) = ([0, 0, 0, 0, 0, 0, 0, 0, 0, 0, 0, 0, 0, 0, 0, 0, 0, 0, 0, 0, 0, 0, 0, 0, 0, 0, 0, 0, 0, 0, 0, 0])))) rfl (fun wS HS => y_pickT rfl (decide_eq_true hq37) rfl) ?_
 refine tly (v := .bool (decide ((rootA (bce.map (·.c))) = ([0, 0, 0, 0, 0, 0, 0, 0, 0, 0, 0, 0, 0, 0, 0, 0, 0, 0, 0, 0, 0, 0, 0, 0, 0, 0, 0, 0, 0, 0, 0, 0])))) rfl (y_assign rfl) ?_
 refine p_nil ?_
 refine n_then ?_
 refine wp_ret ?_
 refine e_r1 Try.results34 (rv_t rfl) ?_
 have hq52 : (rootA (bce.map (·.c))) = ([0, 0, 0, 0, 0, 0, 0, 0, 0, 0, 0, 0, 0, 0, 0, 0, 0, 0, 0, 0, 0, 0, 0, 0, 0, 0, 0, 0, 0, 0, 0, 0]) := (by rw [rootA_no bce_wrong]; rfl)
 have hz : (.bool (decide ((rootA (bce.map (·.c))) = ([0, 0, 0, 0, 0, 0, 0, 0, 0, 0, 0, 0, 0, 0, 0, 0, 0, 0, 0, 0, 0, 0, 0, 0, 0, 0, 0, 0, 0, 0, 0, 0]))) : Value) = .bool true := congrArg Value.bool (decide_eq_true hq52)
 exact ⟨_, rfl, hz, H47.below⟩

end Go.Proofs.Ytdcmbcjkdhdohaa
