/- Walks: wide, kept. -/
import Derived.Test.YtdcmbcjkdhdohaaRootsH
import Derived.Test.YtdcmbcjkdhdohaaRootsP
namespace Go.Proofs.Ytdcmbcjkdhdohaa
open Go Go.RowKit
set_option linter.unusedSimpArgs false
set_option linter.unusedVariables false
attribute [local irreducible] wpList wpP Code.wp

/-- The first i of the plain cells. -/
def PLt (cs : List Cl) (i : Nat) : List Ce := (cs.map (fun q : Cl => q.c)).take i
theorem KeptV_c {v0 v1 : Value} {l k : List UInt8} {w : World} (hW : WideR w v0 l) (hK : Rd [] w 1 v1 k.length (k.map B8)) (hl : l.length ≤ 1099511627776) (hk : k.length ≤ 1099511627776) :
    Calls Try.prog 104 (([v0, v1] : List Value).toArray) w (fun e w' => ∃ v, e = .returned v ∧ v = .bool (decide (l = k)) ∧ Below w.heap.size w w') := by
  obtain ⟨p, cap, rfl, h1, h2, h3⟩ := hW
  exact Kept_c p cap v1 l k w h3 h1 h2 hK hl hk
theorem pl_take {cs : List Cl} {i : Nat} (h : i < cs.length) : (PLt cs (i + 1)) = PLt cs i ++ [(cs.getD i c0).c] := by
  unfold PLt
  rw [List.take_add_one, pl_get h]; rfl
theorem flat3_snoc (ds : List Cl) (c : Cl) : (ds ++ [c]).flatMap Cl.cs = ds.flatMap Cl.cs ++ c.cs := by simp [List.flatMap_append]
theorem map_snoc {ds : List Cl} {c : Cl} {l : List Ce} {e : Ce} (h : ds.map (·.c) = l) (hc : c.c = e) : (ds ++ [c]).map (·.c) = l ++ [e] := by rw [List.map_append, h, ← hc]; rfl
theorem wc_mk {v : Value} {cs : List Cl} {E F : Part} {w w0 : World} {X : List Nat} {L : List Part} (h1 : WSl v cs E) (h2 : CellsW cs F) (hl : cs.length ≤ 1099511627776) (H : St w0 X (F :: E :: L) w) : WCs v cs (E ++ F) ∧ St w0 X ((E ++ F) :: L) w := by
  obtain ⟨H1, d1⟩ := H.join
  exact ⟨⟨E, F, rfl, h1, h2, d1, hl⟩, H1⟩

attribute [local irreducible] leafH innerH topH rootH rootA sha

theorem os_lit0 {e s g : Nat} : OS e s (.slice (some (bs g)) 0 0) 0 [] [(g, Rw e [])] := .inr ⟨g, 0, [], rfl, rfl, Nat.le_refl _, by simp [maxLen], by simp, by simp⟩

set_option maxRecDepth 20000 in
theorem wide_c (v0 : Value) (cs : List Cl) (w : World) (hC : CsR [] w v0 cs) (hcs : cs.length ≤ 1073741824) :
    Calls Try.prog 45 (([v0] : List Value).toArray) w (fun e w' => ∃ v, e = .returned v ∧ ∃ (ds : List Cl) (EB : Part), WCs v ds EB ∧ ds.map (fun q : Cl => q.c) = cs.map (fun q : Cl => q.c) ∧ St w [] [EB] w') := by
 refine calls_mk Try.func45 rfl 40 Try.ntmps45 rfl ?_
 have H0 : St w [] [] w := St.refl w
 refine c_seq ?_
 refine c_reg ?_
 refine sy (v := .slice none 0 0) (y_assign (v := .slice none 0 0) rfl) ?_
 refine c_nil ?_
 refine n_then ?_
 refine c_seq ?_
 refine c_reg ?_
 refine st (ow_lit0 Try.underlying38 sz48 zr48 H0) ?_
 rintro _ w2 ⟨g1, rfl, H3⟩
 refine sy (v := .slice (some (bs g1)) 0 0) (y_assign rfl) ?_
 refine c_nil ?_
 refine n_then ?_
 refine c_seq ?_
 refine c_seq ?_
 have H4 : St w _ [_, _] w2 := H3.nilp
 refine c_reg ?_
 refine sy (v := I ((0 : Nat) : Int)) (y_assign (v := I ((0 : Nat) : Int)) rfl) ?_
 refine c_nil ?_
 refine n_then ?_
 refine wp_block ?_
 refine c_loop (fun (i : Nat) f5 w6 => ∃ (tv : Value), ∃ (ET : Part), ∃ (F : Part), ∃ (ds : List Cl), f5 0 = v0 ∧ f5 3 = tv ∧ f5 4 = I ((i : Nat) : Int) ∧ i ≤ cs.length ∧ OS 48 3 tv ds.length (ds.flatMap Cl.cs) ET ∧ CellsW ds F ∧ ds.length = i ∧ ds.map (fun q : Cl => q.c) = PLt cs i ∧ St w [] [F, ET] w6) (fun i => cs.length - i) 0 ⟨_, _, [], [], rfl, rfl, rfl, (Nat.zero_le _), os_lit0, rfl, rfl, rfl, H4⟩ ?_
 rintro i f5 w6 ⟨tv, ET, F, ds, s0_7, s3_7, s4_7, hi, hoT, hF, hdl, hpl, H7⟩
 refine c_seq ?_
 refine c_seq ?_
 refine c_reg ?_
 refine sy (v := I ((i : Nat) : Int)) (y_move s4_7) ?_
 refine sy (v := v0) (y_move s0_7) ?_
 refine sy (v := I ((cs.length : Nat) : Int)) (y_lenR Try.underlying38 (hC.st H7).rd rfl) ?_
 refine sy (v := .bool (decide (i < cs.length))) (n_lss (a := i) (b := cs.length) rfl rfl) ?_
 refine c_nil ?_
 refine n_then ?_
 refine c_if rfl (fun hc8 => ?_) (fun hc8 => ?_)
 ·
  refine wp_skip ?_
  refine n_then ?_
  refine c_seq ?_
  refine wp_block ?_
  have hsm := (hC.at (d := c0) (i := i) (by omega)).2
  have hsm2 := hsm.2
  have H9 : St w _ [_, _] w6 := H7.foc 1 rfl rfl
  refine drawSub (.step 0 0 (.step 0 1 (.step 0 2 (.step 0 3 (.step 0 4 (.step 0 5 (.step 0 6 (.step 0 7 (.step 0 8 (.step 0 9 (.step 0 10 (.step 0 11 (.step 0 12 (.step 0 13 (.step 0 14 (.step 0 15 (.step 1 16 (.step 0 17 (.step 1 18 (.step 1 19 (.step 2 20 .nil))))))))))))))))))))) mixed H9 (fun _ h => h.drop) (by kernel_rfl) (by kernel_rfl) (by kernel_rfl) ?_
  intro w10 H11
  refine pt (v := tv) rfl (fun wS HS => y_move s3_7) ?_
  refine pt (v := v0) rfl (fun wS HS => y_move s0_7) ?_
  refine pt (v := I ((i : Nat) : Int)) rfl (fun wS HS => y_move s4_7) ?_
  refine pt (v := Ad (sp (v0)) (i * 3)) rfl (fun wS HS => y_ixR (m := i) Try.underlying38 sz48 (hC.st HS).rd (by decide) rfl rfl rfl (by omega)) ?_
  refine pt (v := Ad (sp (v0)) ((i * 3) + 0)) rfl (fun wS HS => y_fld Try.underlying48 rfl rfl sz3 (by decide) rfl) ?_
  refine pt (v := I ((cs.getD i c0).c.k)) rfl (fun wS HS => y_load sc3 rfl ((hC.st HS).rd.cell _ _ (flat3_get (i := i) (j := 0) (d := c0) (by omega) rfl))) ?_
  refine pt (v := v0) rfl (fun wS HS => y_move s0_7) ?_
  refine pt (v := I ((i : Nat) : Int)) rfl (fun wS HS => y_move s4_7) ?_
  refine pt (v := Ad (sp (v0)) (i * 3)) rfl (fun wS HS => y_ixR (m := i) Try.underlying38 sz48 (hC.st HS).rd (by decide) rfl rfl rfl (by omega)) ?_
  refine pt (v := Ad (sp (v0)) ((i * 3) + 1)) rfl (fun wS HS => y_fld Try.underlying48 rfl rfl sz9 (by decide) rfl) ?_
  refine pt (v := .string (bst ((cs.getD i c0).c.key))) rfl (fun wS HS => y_load sc9 rfl ((hC.st HS).rd.cell _ _ (flat3_get (i := i) (j := 1) (d := c0) (by omega) rfl))) ?_
  refine pt (v := v0) rfl (fun wS HS => y_move s0_7) ?_
  refine pt (v := I ((i : Nat) : Int)) rfl (fun wS HS => y_move s4_7) ?_
  refine pt (v := Ad (sp (v0)) (i * 3)) rfl (fun wS HS => y_ixR (m := i) Try.underlying38 sz48 (hC.st HS).rd (by decide) rfl rfl rfl (by omega)) ?_
  refine pt (v := Ad (sp (v0)) ((i * 3) + 2)) rfl (fun wS HS => y_fld Try.underlying48 rfl rfl sz23 (by decide) rfl) ?_
  refine pt (v := (cs.getD i c0).v) rfl (fun wS HS => y_load sc23 rfl ((hC.st HS).rd.cell _ _ (flat3_get (i := i) (j := 2) (d := c0) (by omega) rfl))) ?_
  refine pl rfl (ow_call fn102 rfl (Wide_c ((cs.getD i c0).v) ((cs.getD i c0).c.l) _ (((hC.at (d := c0) (i := i) (by omega)).1.st H11)).nil (by omega)) ⟨rfl, trivial⟩) ?_
  rintro v12 w14 ⟨E13, hw16, H15⟩
  have H17 : St w _ [_, _, _] w14 := H11.app H15
  have H18 : St w _ [_, _, _] w14 := H17.foc 2 rfl rfl
  have H19 : St w _ [_] w14 := H18.take 1 rfl
  refine ⟨H19, ?_⟩
  obtain ⟨pa20, pc21, rfl, -⟩ := ((WideP.os hw16).rd H17 0 rfl).shape
  refine pt (v := .agg ([I ((cs.getD i c0).c.k), .string (bst ((cs.getD i c0).c.key)), (.slice pa20 (((cs.getD i c0).c.l).length) pc21)]).toArray) rfl (fun wS HS => y_build (pv := [(0, I ((cs.getD i c0).c.k)), (1, .string (bst ((cs.getD i c0).c.key))), (2, (.slice pa20 (((cs.getD i c0).c.l).length) pc21))]) (us := [I ((cs.getD i c0).c.k), .string (bst ((cs.getD i c0).c.key)), (.slice pa20 (((cs.getD i c0).c.l).length) pc21)]) ⟨⟨rfl, rfl⟩, ⟨rfl, rfl⟩, ⟨rfl, rfl⟩, trivial⟩ (by kernel_rfl)) ?_
  refine pl rfl (ow_buildSlice (pv := [(0, .agg ([I ((cs.getD i c0).c.k), .string (bst ((cs.getD i c0).c.key)), (.slice pa20 (((cs.getD i c0).c.l).length) pc21)]).toArray)]) (us := [I ((cs.getD i c0).c.k), .string (bst ((cs.getD i c0).c.key)), (.slice pa20 (((cs.getD i c0).c.l).length) pc21)]) Try.underlying38 sz48 zr48 H17 ⟨⟨rfl, rfl⟩, trivial⟩ (by decide) (by kernel_rfl)) ?_
  rintro _ w23 ⟨g22, rfl, H24⟩
  have H25 : St w _ [_, _, _, _] w23 := H24.foc 3 rfl rfl
  have H26 : St w _ [_] w23 := H25.take 1 rfl
  refine ⟨H26, ?_⟩
  have H32 : St w _ [_, _, _, _] w23 := H24.foc 2 rfl rfl
  refine pl rfl (ow_append (m := 1) (news := [I ((cs.getD i c0).c.k), .string (bst ((cs.getD i c0).c.key)), (.slice pa20 (((cs.getD i c0).c.l).length) pc21)]) Try.underlying38 sz48 zr48 bt48 rfl hoT (H32) rfl rfl (((H32.rd (n := 1) (s := 3) (cap := 1) 1 rfl (by simp) ⟨Nat.le_refl _, by simp [maxLen]⟩).src Try.underlying38 (by intro u hu; simp only [List.mem_cons, List.not_mem_nil, or_false] at hu; rcases hu with rfl | rfl | rfl <;> first | rfl | exact Rd.one ((WideP.os hw16).rd H32 2 rfl)))) (by omega) (by omega)) ?_
  rintro v28 w29 ⟨E27, ho31', H30⟩
  have ho31 : OS 48 3 v28 (ds ++ [(⟨(cs.getD i c0).c, (.slice pa20 (((cs.getD i c0).c.l).length) pc21)⟩ : Cl)]).length ((ds ++ [(⟨(cs.getD i c0).c, (.slice pa20 (((cs.getD i c0).c.l).length) pc21)⟩ : Cl)]).flatMap Cl.cs) E27 := by rw [flat3_snoc, List.length_append]; exact ho31'
  have H33 : St w _ [_, _, _, _] w29 := H30.foc 3 rfl rfl
  have H34 : St w _ [_] w29 := H33.take 1 rfl
  refine ⟨H34, ?_⟩
  refine tly (v := v28) rfl (y_assign rfl) ?_
  refine p_nil ?_
  refine n_block (n_then ?_)
  refine c_reg ?_
  refine sy (v := I ((i : Nat) : Int)) (y_move s4_7) ?_
  refine sy (v := I ((i + 1 : Nat) : Int)) (n_add (a := i) (b := 1) rfl rfl (by omega)) ?_
  refine sy (v := I ((i + 1 : Nat) : Int)) (y_assign rfl) ?_
  refine c_nil ?_
  have H35 : St w _ [_, _, _, _] w29 := H30.foc 1 rfl rfl
  have H36 : St w _ [_, _, _, _] w29 := H35.foc 1 rfl rfl
  have H37 : St w _ [_, _, _, _] w29 := H36.foc 3 rfl rfl
  have H38 : St w _ [_, _, _, _] w29 := H37.foc 3 rfl rfl
  obtain ⟨H39, hd40⟩ := H38.join
  have H41 : St w _ [_, _, _] w29 := H39.foc 1 rfl rfl
  have H42 : St w _ [_, _, _] w29 := H41.foc 1 rfl rfl
  have H43 : St w _ [_, _] w29 := H42.take 2 rfl
  exact lp_next (i + 1) ⟨v28, E27, (F ++ E13), (ds ++ [(⟨(cs.getD i c0).c, (.slice pa20 (((cs.getD i c0).c.l).length) pc21)⟩ : Cl)]), s0_7, rfl, rfl, (by omega), ho31, (CellsW.snoc (c := (⟨(cs.getD i c0).c, (.slice pa20 (((cs.getD i c0).c.l).length) pc21)⟩ : Cl)) hw16 hsm hF hd40), (by rw [List.length_append, List.length_singleton]; omega), (by rw [pl_take (by omega)]; exact map_snoc hpl rfl), H43⟩ (by show _ < _; omega)
 ·
  refine wp_exit ?_
  refine x_then (x_then (x_hit (n_then ?_)))
  refine c_seq ?_
  have hic : i = cs.length := by omega
  refine c_reg ?_
  refine sy (v := tv) (y_move s3_7) ?_
  refine sy (v := .agg ([I (-5), .string (⟨#[109, 97, 114, 107]⟩), .slice none 0 0]).toArray) (y_build (pv := [(0, I (-5)), (1, .string (⟨#[109, 97, 114, 107]⟩))]) (us := [I (-5), .string (⟨#[109, 97, 114, 107]⟩), .slice none 0 0]) ⟨⟨rfl, rfl⟩, ⟨rfl, rfl⟩, trivial⟩ (by kernel_rfl)) ?_
  refine st (ow_buildSlice (pv := [(0, .agg ([I (-5), .string (⟨#[109, 97, 114, 107]⟩), .slice none 0 0]).toArray)]) (us := [I (-5), .string (⟨#[109, 97, 114, 107]⟩), .slice none 0 0]) Try.underlying38 sz48 zr48 H7 ⟨⟨rfl, rfl⟩, trivial⟩ (by decide) (by kernel_rfl)) ?_
  rintro _ w45 ⟨g44, rfl, H46⟩
  have H52 : St w _ [_, _, _] w45 := H46.foc 2 rfl rfl
  refine st (ow_append (m := 1) (news := [I (-5), .string (⟨#[109, 97, 114, 107]⟩), .slice none 0 0]) Try.underlying38 sz48 zr48 bt48 rfl hoT (H52) rfl rfl (((H52.rd (n := 1) (s := 3) (cap := 1) 1 rfl (by simp) ⟨Nat.le_refl _, by simp [maxLen]⟩).src Try.underlying38 (by simp [Value.oneCell']))) (by omega) (by omega)) ?_
  rintro v48 w49 ⟨E47, ho51', H50⟩
  have ho51 : OS 48 3 v48 (ds.length + 1) (ds.flatMap Cl.cs ++ mk3) E47 := ho51'
  refine sy (v := v48) (y_assign rfl) ?_
  refine c_nil ?_
  refine n_then ?_
  refine c_seq ?_
  refine c_reg ?_
  refine sy (v := v48) (y_move rfl) ?_
  refine sy (v := v0) (y_move s0_7) ?_
  refine sy (v := I ((cs.length : Nat) : Int)) (y_lenR Try.underlying38 (hC.st H50).rd rfl) ?_
  refine sy (v := slv 3 0 cs.length v48) (y_slR (k1 := .i64) (k2 := .i64) (l := 0) (h := cs.length) Try.underlying38 sz48 (ho51.rd H50 0 rfl) rfl (.inl ⟨rfl, rfl⟩) (.inr ⟨_, rfl, rfl⟩) (by omega) (by omega)) ?_
  refine sy (v := slv 3 0 cs.length v48) (y_assign rfl) ?_
  refine c_nil ?_
  refine n_then ?_
  refine wp_ret ?_
  refine e_r1 Try.results45 (rv_t rfl) ?_
  have H53 : St w _ [_, _, _] w49 := H50.foc 2 rfl rfl
  have H54 : St w _ [_, _] w49 := H53.take 2 rfl
  have hpf : ds.map (fun q : Cl => q.c) = cs.map (fun q : Cl => q.c) := by
   rw [hpl, hic]; unfold PLt; exact List.take_of_length_le (by rw [List.length_map]; exact Nat.le_refl _)
  have hdc : ds.length = cs.length := by omega
  obtain ⟨hb1, hb2⟩ := wc_mk (wsl_of ho51) hF (by omega) H54
  exact ⟨_, rfl, ds, _, by rw [← hdc]; exact hb1, hpf, hb2⟩

theorem WideR.st {w w0 : World} {L : List Part} {v : Value} {l : List UInt8} (h : WideR w0 v l) (H : St w0 [] L w) : WideR w v l := by
  obtain ⟨p, cap, e, h1, h2, h3⟩ := h
  exact ⟨p, cap, e, h1, h2, h3.st H⟩

set_option maxRecDepth 20000 in
theorem kept_c (p : Addr) (cap : Nat) (ds : List Cl) (v1 : Value) (cs : List Cl) (w : World) (hK : KR w p cap ds) (hC : CsR [] w v1 cs) (hpl : ds.map (·.c) = cs.map (·.c)) :
    Calls Try.prog 47 (([(.slice (some p) ds.length cap), v1] : List Value).toArray) w (fun e w' => ∃ v, e = .returned v ∧ v = .bool true ∧ Below w.heap.size w w') := by
 have hle := hC.le
 have hdl := (pl_eq.1 hpl).1
 refine calls_mk Try.func47 rfl 63 Try.ntmps47 rfl ?_
 have H0 : St w [] [] w := St.refl w
 refine c_seq ?_
 refine c_reg ?_
 refine sy (v := .bool (false)) (y_assign (v := .bool (false)) rfl) ?_
 refine c_nil ?_
 refine n_then ?_
 refine c_seq ?_
 refine c_seq ?_
 refine c_reg ?_
 refine sy (v := (.slice (some p) ds.length cap)) (y_move rfl) ?_
 refine sy (v := I ((ds.length : Nat) : Int)) (y_lenR Try.underlying38 (hK.csr.st H0).rd rfl) ?_
 refine sy (v := v1) (y_move rfl) ?_
 refine sy (v := I ((cs.length : Nat) : Int)) (y_lenR Try.underlying38 (hC.st H0).rd rfl) ?_
 refine sy (v := .bool (decide (ds.length ≠ cs.length))) (n_neq (a := ds.length) (b := cs.length) rfl rfl) ?_
 refine c_nil ?_
 refine n_then ?_
 have hq1 : ¬ (ds.length ≠ cs.length) := (not_not_intro hdl)
 refine c_f rfl (decide_eq_false hq1) ?_
 refine wp_skip ?_
 refine n_then ?_
 refine c_seq ?_
 refine c_seq ?_
 refine c_reg ?_
 refine sy (v := I ((0 : Nat) : Int)) (y_assign (v := I ((0 : Nat) : Int)) rfl) ?_
 refine c_nil ?_
 refine n_then ?_
 refine wp_block ?_
 refine c_loop (fun (j : Nat) f2 w3 => f2 0 = (.slice (some p) ds.length cap) ∧ f2 1 = v1 ∧ f2 5 = I ((j : Nat) : Int) ∧ j ≤ cs.length ∧ St w [] [] w3) (fun j => cs.length - j) 0 ⟨rfl, rfl, rfl, (Nat.zero_le _), H0⟩ ?_
 rintro j f2 w3 ⟨s0_4, s1_4, s5_4, hf0_4, H4⟩
 refine c_seq ?_
 refine c_seq ?_
 refine c_reg ?_
 refine sy (v := I ((j : Nat) : Int)) (y_move s5_4) ?_
 refine sy (v := v1) (y_move s1_4) ?_
 refine sy (v := I ((cs.length : Nat) : Int)) (y_lenR Try.underlying38 (hC.st H4).rd rfl) ?_
 refine sy (v := .bool (decide (j < cs.length))) (n_lss (a := j) (b := cs.length) rfl rfl) ?_
 refine c_nil ?_
 refine n_then ?_
 refine c_if rfl (fun hc5 => ?_) (fun hc5 => ?_)
 ·
  refine wp_skip ?_
  refine n_then ?_
  refine c_seq ?_
  refine wp_block ?_
  refine c_seq ?_
  have hsd := (hK.csr.at (d := c0) (i := j) (by omega)).2
  have hsc := (hC.at (d := c0) (i := j) (by omega)).2
  refine drawS (.step 0 0 (.step 0 1 (.step 0 2 (.step 0 3 (.step 0 4 (.step 0 5 (.step 0 6 (.step 0 7 (.step 1 8 (.step 0 9 (.step 0 10 (.step 0 11 (.step 0 12 (.step 0 13 (.step 0 14 (.step 0 15 (.step 0 16 (.step 0 17 (.step 0 18 (.step 0 19 (.step 0 20 (.step 1 21 (.step 0 22 (.step 0 23 .nil)))))))))))))))))))))))) mixed H4 (by kernel_rfl) (by kernel_rfl) (by kernel_rfl) ?_
  intro w6 H7
  refine pt (v := (.slice (some p) ds.length cap)) rfl (fun wS HS => y_move s0_4) ?_
  refine pt (v := I ((j : Nat) : Int)) rfl (fun wS HS => y_move s5_4) ?_
  refine pt (v := Ad (sp ((.slice (some p) ds.length cap))) (j * 3)) rfl (fun wS HS => y_ixR (m := j) Try.underlying38 sz48 (hK.csr.st HS).rd (by decide) rfl rfl rfl (by omega)) ?_
  refine pt (v := .agg ([I ((ds.getD j c0).c.k), .string (bst ((ds.getD j c0).c.key)), (ds.getD j c0).v]).toArray) rfl (fun wS HS => y_loadA (us := (ds.getD j c0).cs) ag48 sz48 rfl rfl (fun j u hu => (hK.csr.st HS).rd.cell _ _ (flat3_get (by omega) hu))) ?_
  refine pt (v := v1) rfl (fun wS HS => y_move s1_4) ?_
  refine pt (v := I ((j : Nat) : Int)) rfl (fun wS HS => y_move s5_4) ?_
  refine pt (v := Ad (sp (v1)) (j * 3)) rfl (fun wS HS => y_ixR (m := j) Try.underlying38 sz48 (hC.st HS).rd (by decide) rfl rfl rfl (by omega)) ?_
  refine pt (v := .agg ([I ((cs.getD j c0).c.k), .string (bst ((cs.getD j c0).c.key)), (cs.getD j c0).v]).toArray) rfl (fun wS HS => y_loadA (us := (cs.getD j c0).cs) ag48 sz48 rfl rfl (fun j u hu => (hC.st HS).rd.cell _ _ (flat3_get (by omega) hu))) ?_
  refine pl rfl (ow_call fn36 rfl (same_c (ds.getD j c0) (cs.getD j c0) _ (CR.st (hK.csr.at (d := c0) (i := j) (by omega)) H7).nil (CR.st (hC.at (d := c0) (i := j) (by omega)) H7).nil) ⟨rfl, rfl, trivial⟩) ?_
  rintro _ w8 ⟨rfl, hB9⟩
  have H10 : St w _ [] w8 := H7.call hB9
  refine ⟨H10, ?_⟩
  refine pt (v := .bool (decide (¬ (sameC (ds.getD j c0).c (cs.getD j c0).c)))) rfl (fun wS HS => y_notP rfl) ?_
  refine pt (v := .bool (decide (¬ (sameC (ds.getD j c0).c (cs.getD j c0).c)))) rfl (fun wS HS => y_move rfl) ?_
  have hq11 : sameC (ds.getD j c0).c (cs.getD j c0).c := ((pl_eq.1 hpl).2 j (by omega))
  refine gpt (v := (.slice (some p) ds.length cap)) rfl (gv_of (t := 28) rfl rfl rfl) (decide_eq_false (not_not_intro hq11)) (fun wS HS => y_move s0_4) ?_
  refine gpt (v := I ((j : Nat) : Int)) rfl (gv_of (t := 28) rfl rfl rfl) (decide_eq_false (not_not_intro hq11)) (fun wS HS => y_move s5_4) ?_
  refine gpt (v := Ad (sp ((.slice (some p) ds.length cap))) (j * 3)) rfl (gv_of (t := 28) rfl rfl rfl) (decide_eq_false (not_not_intro hq11)) (fun wS HS => y_ixR (m := j) Try.underlying38 sz48 (hK.csr.st HS).rd (by decide) rfl rfl rfl (by omega)) ?_
  refine gpt (v := Ad (sp ((.slice (some p) ds.length cap))) ((j * 3) + 2)) rfl (gv_of (t := 28) rfl rfl rfl) (decide_eq_false (not_not_intro hq11)) (fun wS HS => y_fld Try.underlying48 rfl rfl sz23 (by decide) rfl) ?_
  refine gpt (v := (ds.getD j c0).v) rfl (gv_of (t := 28) rfl rfl rfl) (decide_eq_false (not_not_intro hq11)) (fun wS HS => y_load sc23 rfl ((hK.csr.st HS).rd.cell _ _ (flat3_get (i := j) (j := 2) (d := c0) (by omega) rfl))) ?_
  refine gpt (v := v1) rfl (gv_of (t := 28) rfl rfl rfl) (decide_eq_false (not_not_intro hq11)) (fun wS HS => y_move s1_4) ?_
  refine gpt (v := I ((j : Nat) : Int)) rfl (gv_of (t := 28) rfl rfl rfl) (decide_eq_false (not_not_intro hq11)) (fun wS HS => y_move s5_4) ?_
  refine gpt (v := Ad (sp (v1)) (j * 3)) rfl (gv_of (t := 28) rfl rfl rfl) (decide_eq_false (not_not_intro hq11)) (fun wS HS => y_ixR (m := j) Try.underlying38 sz48 (hC.st HS).rd (by decide) rfl rfl rfl (by omega)) ?_
  refine gpt (v := Ad (sp (v1)) ((j * 3) + 2)) rfl (gv_of (t := 28) rfl rfl rfl) (decide_eq_false (not_not_intro hq11)) (fun wS HS => y_fld Try.underlying48 rfl rfl sz23 (by decide) rfl) ?_
  refine gpt (v := (cs.getD j c0).v) rfl (gv_of (t := 28) rfl rfl rfl) (decide_eq_false (not_not_intro hq11)) (fun wS HS => y_load sc23 rfl ((hC.st HS).rd.cell _ _ (flat3_get (i := j) (j := 2) (d := c0) (by omega) rfl))) ?_
  refine gpl rfl (gv_of (t := 28) rfl rfl rfl) (decide_eq_false (not_not_intro hq11)) (ow_call fn104 rfl (KeptV_c (v0 := (ds.getD j c0).v) (l := (ds.getD j c0).c.l) (k := (cs.getD j c0).c.l) ((hK.at (d := c0) (i := j) (by omega)).st H10) ((hC.at (d := c0) (i := j) (by omega)).1.st H10) hsd.2 hsc.2) ⟨rfl, rfl, trivial⟩) ?_
  rintro _ w12 ⟨rfl, hB13⟩
  have H14 : St w _ [] w12 := H10.call hB13
  refine ⟨H14, ?_⟩
  refine gpt (v := .bool (decide (¬ ((ds.getD j c0).c.l = (cs.getD j c0).c.l)))) rfl (gv_of (t := 28) rfl rfl rfl) (decide_eq_false (not_not_intro hq11)) (fun wS HS => y_notP rfl) ?_
  refine pt (v := .bool (decide (¬ ((ds.getD j c0).c.l = (cs.getD j c0).c.l)))) rfl (fun wS HS => y_pickF rfl (decide_eq_false (not_not_intro hq11)) rfl) ?_
  refine p_nil ?_
  refine n_then ?_
  have hq15 : (ds.getD j c0).c.l = (cs.getD j c0).c.l := ((pl_eq.1 hpl).2 j (by omega)).2.2
  refine c_f rfl (decide_eq_false (not_not_intro hq15)) ?_
  refine wp_skip ?_
  refine n_block (n_then ?_)
  refine c_reg ?_
  refine sy (v := I ((j : Nat) : Int)) (y_move s5_4) ?_
  refine sy (v := I ((j + 1 : Nat) : Int)) (n_add (a := j) (b := 1) rfl rfl (by omega)) ?_
  refine sy (v := I ((j + 1 : Nat) : Int)) (y_assign rfl) ?_
  refine c_nil ?_
  exact lp_next (j + 1) ⟨s0_4, s1_4, rfl, (by omega), H14⟩ (by show _ < _; omega)
 ·
  refine wp_exit ?_
  refine x_then (x_then (x_hit (n_then ?_)))
  refine c_seq ?_
  refine c_reg ?_
  refine sy (v := (.slice (some p) ds.length cap)) (y_move s0_4) ?_
  refine sy (v := v1) (y_move s1_4) ?_
  refine sy (v := I ((cs.length : Nat) : Int)) (y_lenR Try.underlying38 (hC.st H4).rd rfl) ?_
  refine sy (v := I ((cs.length + 1 : Nat) : Int)) (n_add (a := cs.length) (b := 1) rfl rfl (by omega)) ?_
  have hc1 := hK.cap1
  have h816 : slv 3 0 (cs.length + 1) (.slice (some p) ds.length cap) = (.slice (some p) (ds.length + 1) cap) := by
   show Value.slice (if cap = 0 then some p else (some p).map (·.add (0 * 3))) (cs.length + 1 - 0) (cap - 0) = _
   rw [if_neg (by omega), hdl]; rfl
  refine sy (v := (.slice (some p) (ds.length + 1) cap)) ((h816 ▸ y_sl (k1 := .i64) (k2 := .i64) (l := 0) (h := cs.length + 1) Try.underlying38 sz48 rfl (.inl ⟨rfl, rfl⟩) (.inr ⟨_, rfl, rfl⟩) (by omega) (by omega))) ?_
  refine sy (v := (.slice (some p) (ds.length + 1) cap)) (y_assign rfl) ?_
  refine c_nil ?_
  refine n_then ?_
  refine c_seq ?_
  refine c_reg ?_
  refine sy (v := (.slice (some p) (ds.length + 1) cap)) (y_move rfl) ?_
  refine sy (v := v1) (y_move s1_4) ?_
  refine sy (v := I ((cs.length : Nat) : Int)) (y_lenR Try.underlying38 (hC.st H4).rd rfl) ?_
  refine sy (v := Ad (sp ((.slice (some p) (ds.length + 1) cap))) (cs.length * 3)) (y_ixR (m := cs.length) Try.underlying38 sz48 (hK.rd.st H4) (by decide) rfl rfl rfl (by omega)) ?_
  refine sy (v := Ad (sp ((.slice (some p) (ds.length + 1) cap))) ((cs.length * 3) + 0)) (y_fld Try.underlying48 rfl rfl sz3 (by decide) rfl) ?_
  refine sy (v := I (-5)) (y_load sc3 rfl ((hK.rd.st H4).cell _ _ (by rw [show cs.length * 3 + 0 = ds.length * 3 + 0 by rw [hdl]]; exact mk_get rfl))) ?_
  refine sy (v := .bool (decide ((-5) = (-5)))) (y_eqlK (i := (-5)) (j := (-5)) rfl rfl) ?_
  refine sy (v := .bool (decide ((-5) = (-5)))) (y_move rfl) ?_
  have hq17 : (-5) = (-5) := rfl
  refine gsy (v := (.slice (some p) (ds.length + 1) cap)) (gv_of (t := 54) rfl rfl rfl) (decide_eq_true hq17) (y_move rfl) ?_
  refine gsy (v := v1) (gv_of (t := 54) rfl rfl rfl) (decide_eq_true hq17) (y_move s1_4) ?_
  refine gsy (v := I ((cs.length : Nat) : Int)) (gv_of (t := 54) rfl rfl rfl) (decide_eq_true hq17) (y_lenR Try.underlying38 (hC.st H4).rd rfl) ?_
  refine gsy (v := Ad (sp ((.slice (some p) (ds.length + 1) cap))) (cs.length * 3)) (gv_of (t := 54) rfl rfl rfl) (decide_eq_true hq17) (y_ixR (m := cs.length) Try.underlying38 sz48 (hK.rd.st H4) (by decide) rfl rfl rfl (by omega)) ?_
  refine gsy (v := Ad (sp ((.slice (some p) (ds.length + 1) cap))) ((cs.length * 3) + 1)) (gv_of (t := 54) rfl rfl rfl) (decide_eq_true hq17) (y_fld Try.underlying48 rfl rfl sz9 (by decide) rfl) ?_
  refine gsy (v := .string (bst mkK)) (gv_of (t := 54) rfl rfl rfl) (decide_eq_true hq17) (y_load sc9 rfl ((hK.rd.st H4).cell _ _ (by rw [show cs.length * 3 + 1 = ds.length * 3 + 1 by rw [hdl]]; exact mk_get rfl))) ?_
  refine gsy (v := .bool (decide (mkK = mkK))) (gv_of (t := 54) rfl rfl rfl) (decide_eq_true hq17) (y_eqlS (a := mkK) (b := mkK) rfl rfl) ?_
  refine sy (v := .bool (decide (mkK = mkK))) (y_pickT rfl (decide_eq_true hq17) rfl) ?_
  refine sy (v := .bool (decide (mkK = mkK))) (y_assign rfl) ?_
  refine c_nil ?_
  refine n_then ?_
  refine wp_ret ?_
  refine e_r1 Try.results47 (rv_t rfl) ?_
  have hq18 : mkK = mkK := rfl
  have hz : (.bool (decide (mkK = mkK)) : Value) = .bool true := congrArg Value.bool (decide_eq_true hq18)
  exact ⟨_, rfl, hz, H4.below⟩

end Go.Proofs.Ytdcmbcjkdhdohaa
