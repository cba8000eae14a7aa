/- Walks: Same of hashes, of witnesses. -/
import Derived.Test.YtdcmbcjkdhdohaaRoots14
namespace Go.Proofs.Ytdcmbcjkdhdohaa
open Go Go.RowKit
set_option linter.unusedSimpArgs false
set_option linter.unusedVariables false
attribute [local irreducible] wpList wpP Code.wp

theorem hs_ext {hs ks : List (List UInt8)} (hl : hs.length = ks.length) (h : ∀ j, j < hs.length → hs.getD j [] = ks.getD j []) : hs = ks := by
  apply List.ext_getElem hl
  intro j h1 h2
  have := h j h1
  rwa [List.getD_eq_getElem?_getD, List.getD_eq_getElem?_getD, List.getElem?_eq_getElem h1, List.getElem?_eq_getElem h2] at this
theorem le_iff {f g : Lf} : f.e = g.e ↔ f.n = g.n ∧ sameC f.cell.c g.cell.c ∧ f.path = g.path := by
  constructor
  · intro h
    have h1 : f.n = g.n := congrArg Le.n h
    have h2 : f.cell.c = g.cell.c := congrArg Le.c h
    have h3 : f.path = g.path := congrArg Le.path h
    exact ⟨h1, by rw [h2]; exact ⟨rfl, rfl, rfl⟩, h3⟩
  · rintro ⟨h1, ⟨h2, h3, h4⟩, h5⟩
    obtain ⟨n, ⟨⟨k, key, l⟩, v⟩, pv, path⟩ := f
    obtain ⟨n', ⟨⟨k', key', l'⟩, v'⟩, pv', path'⟩ := g
    simp only at h1 h2 h3 h4 h5
    subst h1 h2 h3 h4 h5
    rfl
theorem pe_ext {ls ks : List Lf} (hl : ls.length = ks.length) (h : ∀ j, j < ls.length → (ls.getD j lf0).e = (ks.getD j lf0).e) : PE ls = PE ks := by
  apply List.ext_getElem (by rw [List.length_map, List.length_map]; exact hl)
  intro j h1 h2
  rw [List.length_map] at h1 h2
  have := h j h1
  rw [List.getD_eq_getElem?_getD, List.getD_eq_getElem?_getD, List.getElem?_eq_getElem h1, List.getElem?_eq_getElem h2] at this
  rw [List.getElem_map, List.getElem_map]; exact this
theorem pe_get {ls ks : List Lf} (h : PE ls = PE ks) : ls.length = ks.length ∧ ∀ j, j < ls.length → (ls.getD j lf0).e = (ks.getD j lf0).e := by
  have hl : ls.length = ks.length := by have := congrArg List.length h; rwa [List.length_map, List.length_map] at this
  refine ⟨hl, fun j hj => ?_⟩
  have h2 := congrArg (fun l : List Le => l[j]?) h
  simp only [List.getElem?_map, List.getElem?_eq_getElem hj, List.getElem?_eq_getElem (show j < ks.length by omega), Option.map_some] at h2
  rw [List.getD_eq_getElem?_getD, List.getD_eq_getElem?_getD, List.getElem?_eq_getElem hj, List.getElem?_eq_getElem (show j < ks.length by omega)]
  exact Option.some.inj h2

attribute [local irreducible] leafH innerH topH rootH rootA sha checkA

theorem hsame_c (v0 v1 : Value) (hs ks : List (List UInt8)) (w : World) (hR : Rd [] w 32 v0 hs.length (hs.flatten.map B8)) (hQ : Rd [] w 32 v1 ks.length (ks.flatten.map B8)) (hh : H32 hs) (hk : H32 ks) (hl1 : hs.length ≤ 1099511627776) (hl2 : ks.length ≤ 1099511627776) :
    Calls Try.prog 95 (([v0, v1] : List Value).toArray) w (fun e w' => ∃ v, e = .returned v ∧ v = .bool (decide (hs = ks)) ∧ Below w.heap.size w w') := by
 refine calls_mk Try.func95 rfl 26 Try.ntmps95 rfl ?_
 have H0 : St w [] [] w := St.refl w
 refine c_seq ?_
 refine c_reg ?_
 refine sy (v := .bool (false)) (y_assign (v := .bool (false)) rfl) ?_
 refine c_nil ?_
 refine n_then ?_
 refine c_seq ?_
 refine c_seq ?_
 refine c_reg ?_
 refine sy (v := v0) (y_move rfl) ?_
 refine sy (v := I ((hs.length : Nat) : Int)) (y_lenR Try.underlying72 (hR.st H0) rfl) ?_
 refine sy (v := v1) (y_move rfl) ?_
 refine sy (v := I ((ks.length : Nat) : Int)) (y_lenR Try.underlying72 (hQ.st H0) rfl) ?_
 refine sy (v := .bool (decide (hs.length ≠ ks.length))) (n_neq (a := hs.length) (b := ks.length) rfl rfl) ?_
 refine c_nil ?_
 refine n_then ?_
 refine c_if rfl (fun hc1 => ?_) (fun hc1 => ?_)
 ·
  refine c_seq ?_
  refine c_reg ?_
  refine sy (v := .bool (false)) (y_assign (v := .bool (false)) rfl) ?_
  refine c_nil ?_
  refine n_then ?_
  refine wp_ret ?_
  refine r_then ?_
  refine e_r1 Try.results95 (rv_t rfl) ?_
  have hq : ¬ hs = ks := fun h => absurd (congrArg List.length h) (by assumption)
  exact ⟨_, rfl, by rw [decide_eq_false hq]; rfl, H0.below⟩
 ·
  refine wp_skip ?_
  refine n_then ?_
  refine c_seq ?_
  refine c_seq ?_
  refine c_reg ?_
  refine sy (v := I ((0 : Nat) : Int)) (y_assign (v := I ((0 : Nat) : Int)) rfl) ?_
  refine c_nil ?_
  refine n_then ?_
  refine wp_block ?_
  refine c_loop (fun (i : Nat) f2 w3 => f2 0 = v0 ∧ f2 1 = v1 ∧ f2 5 = I ((i : Nat) : Int) ∧ i ≤ hs.length ∧ (∀ j, j < i → hs.getD j [] = ks.getD j []) ∧ St w [] [] w3) (fun i => hs.length - i) 0 ⟨rfl, rfl, rfl, (Nat.zero_le _), (fun j hj => absurd hj (by omega)), H0⟩ ?_
  rintro i f2 w3 ⟨s0_4, s1_4, s5_4, hi, hz, H4⟩
  refine c_seq ?_
  refine c_seq ?_
  refine c_reg ?_
  refine sy (v := I ((i : Nat) : Int)) (y_move s5_4) ?_
  refine sy (v := v0) (y_move s0_4) ?_
  refine sy (v := I ((hs.length : Nat) : Int)) (y_lenR Try.underlying72 (hR.st H4) rfl) ?_
  refine sy (v := .bool (decide (i < hs.length))) (n_lss (a := i) (b := hs.length) rfl rfl) ?_
  refine c_nil ?_
  refine n_then ?_
  refine c_if rfl (fun hc5 => ?_) (fun hc5 => ?_)
  ·
   refine wp_skip ?_
   refine n_then ?_
   refine c_seq ?_
   refine wp_block ?_
   refine c_seq ?_
   refine drawS (.step 0 0 (.step 0 1 (.step 0 2 (.step 0 3 (.step 0 4 (.step 0 5 (.step 0 6 (.step 0 7 (.step 0 8 .nil))))))))) mixed H4 (by kernel_rfl) (by kernel_rfl) (by kernel_rfl) ?_
   intro w6 H7
   refine pt (v := v0) rfl (fun wS HS => y_move s0_4) ?_
   refine pt (v := I ((i : Nat) : Int)) rfl (fun wS HS => y_move s5_4) ?_
   refine pt (v := Ad (sp (v0)) (i * 32)) rfl (fun wS HS => y_ixR (m := i) Try.underlying72 sz26 (hR.st HS) (by decide) rfl rfl rfl (by omega)) ?_
   refine pt (v := .agg ((hs.getD i []).map B8).toArray) rfl (fun wS HS => y_loadA (us := (hs.getD i []).map B8) ag26 sz26 ((List.length_map _).trans (getD_len hh (by omega))) rfl (fun j u hu => (hR.st HS).cell _ _ (flat_get hh (by omega) hu))) ?_
   refine pt (v := v1) rfl (fun wS HS => y_move s1_4) ?_
   refine pt (v := I ((i : Nat) : Int)) rfl (fun wS HS => y_move s5_4) ?_
   refine pt (v := Ad (sp (v1)) (i * 32)) rfl (fun wS HS => y_ixR (m := i) Try.underlying72 sz26 (hQ.st HS) (by decide) rfl rfl rfl (by omega)) ?_
   refine pt (v := .agg ((ks.getD i []).map B8).toArray) rfl (fun wS HS => y_loadA (us := (ks.getD i []).map B8) ag26 sz26 ((List.length_map _).trans (getD_len hk (by omega))) rfl (fun j u hu => (hQ.st HS).cell _ _ (flat_get hk (by omega) hu))) ?_
   refine pt (v := .bool (decide ((hs.getD i []) ≠ (ks.getD i [])))) rfl (fun wS HS => y_neqArr (l1 := hs.getD i []) (l2 := ks.getD i []) Try.underlying26 sz5 sc5 Try.underlying5 gt26 (getD_len hh (by omega)) (getD_len hk (by omega)) rfl rfl) ?_
   refine p_nil ?_
   refine n_then ?_
   refine c_if rfl (fun hc8 => ?_) (fun hc8 => ?_)
   ·
    refine c_seq ?_
    refine c_reg ?_
    refine sy (v := .bool (false)) (y_assign (v := .bool (false)) rfl) ?_
    refine c_nil ?_
    refine n_then ?_
    refine wp_ret ?_
    refine r_block (r_then (r_then (r_block (r_then ?_))))
    refine e_r1 Try.results95 (rv_t rfl) ?_
    have hq : ¬ hs = ks := fun h => absurd (by rw [h]) (show hs.getD i [] ≠ ks.getD i [] by assumption)
    exact ⟨_, rfl, by rw [decide_eq_false hq]; rfl, H7.below⟩
   ·
    refine wp_skip ?_
    refine n_block (n_then ?_)
    refine c_reg ?_
    refine sy (v := I ((i : Nat) : Int)) (y_move s5_4) ?_
    refine sy (v := I ((i + 1 : Nat) : Int)) (n_add (a := i) (b := 1) rfl rfl (by omega)) ?_
    refine sy (v := I ((i + 1 : Nat) : Int)) (y_assign rfl) ?_
    refine c_nil ?_
    exact lp_next (i + 1) ⟨s0_4, s1_4, rfl, (by omega), (fun j hj => by
     by_cases e : j = i
     · rw [e]; exact Decidable.not_not.1 (by assumption)
     · exact hz j (by omega)), H7⟩ (by show _ < _; omega)
  ·
   refine wp_exit ?_
   refine x_then (x_then (x_hit (n_then ?_)))
   refine c_seq ?_
   refine c_reg ?_
   refine sy (v := .bool (true)) (y_assign (v := .bool (true)) rfl) ?_
   refine c_nil ?_
   refine n_then ?_
   refine wp_ret ?_
   refine e_r1 Try.results95 (rv_t rfl) ?_
   have hq : hs = ks := hs_ext (by omega) (fun j hj => hz j (by omega))
   exact ⟨_, rfl, by rw [decide_eq_true hq]; rfl, H4.below⟩

set_option maxHeartbeats 2000000 in
set_option maxRecDepth 20000 in
theorem samew_c (n m : Int) (lv lw : Value) (ls ks : List Lf) (w : World) (hL : LsR [] w lv ls) (hM : LsR [] w lw ks) :
    Calls Try.prog 39 (([.agg ([I n, lv]).toArray, .agg ([I m, lw]).toArray] : List Value).toArray) w (fun e w' => ∃ v, e = .returned v ∧ ∃ b : Bool, v = .bool b ∧ (b = true ↔ n = m ∧ PE ls = PE ks) ∧ Below w.heap.size w w') := by
 have hle1 := hL.le
 have hle2 := hM.le
 refine calls_mk Try.func39 rfl 64 Try.ntmps39 rfl ?_
 have H0 : St w [] [] w := St.refl w
 refine c_seq ?_
 refine c_reg ?_
 refine st (ow_box (l := [I (n), lv]) H0 rfl rfl) ?_
 rintro _ w2 ⟨g1, rfl, H3⟩
 refine st (ow_box (l := [I (m), lw]) H3 rfl rfl) ?_
 rintro _ w5 ⟨g4, rfl, H6⟩
 refine sy (v := .bool (false)) (y_assign (v := .bool (false)) rfl) ?_
 refine c_nil ?_
 refine n_then ?_
 refine c_seq ?_
 refine c_seq ?_
 refine c_reg ?_
 refine sy (v := Ad (bs g1) (0 + 0)) (y_fld Try.underlying41 rfl rfl sz3 (by decide) rfl) ?_
 refine sy (v := I (n)) (y_load sc3 rfl (H6.cell 1 rfl rfl)) ?_
 refine sy (v := Ad (bs g4) (0 + 0)) (y_fld Try.underlying41 rfl rfl sz3 (by decide) rfl) ?_
 refine sy (v := I (m)) (y_load sc3 rfl (H6.cell 0 rfl rfl)) ?_
 refine sy (v := .bool (decide (n ≠ m))) (y_neqK (i := n) (j := m) rfl rfl) ?_
 refine sy (v := .bool (decide (n ≠ m))) (y_move rfl) ?_
 by_cases hp7 : n ≠ m
 ·
  refine gno (gv_of (t := 15) rfl rfl rfl) (decide_eq_true hp7) ?_
  refine gno (gv_of (t := 15) rfl rfl rfl) (decide_eq_true hp7) ?_
  refine gno (gv_of (t := 15) rfl rfl rfl) (decide_eq_true hp7) ?_
  refine gno (gv_of (t := 15) rfl rfl rfl) (decide_eq_true hp7) ?_
  refine gno (gv_of (t := 15) rfl rfl rfl) (decide_eq_true hp7) ?_
  refine gno (gv_of (t := 15) rfl rfl rfl) (decide_eq_true hp7) ?_
  refine gno (gv_of (t := 15) rfl rfl rfl) (decide_eq_true hp7) ?_
  refine sy (v := .bool (true)) (y_pickT (v := .bool (true)) rfl (decide_eq_true hp7) rfl) ?_
  refine c_nil ?_
  refine n_then ?_
  refine c_t rfl rfl ?_
  refine c_seq ?_
  refine c_reg ?_
  refine sy (v := .bool (false)) (y_assign (v := .bool (false)) rfl) ?_
  refine c_nil ?_
  refine n_then ?_
  refine wp_ret ?_
  refine r_then ?_
  refine e_r1 Try.results39 (rv_t rfl) ?_
  have hq : ¬ (n = m ∧ PE ls = PE ks) := fun ⟨h1, h2⟩ => by have := (pe_get h2).1; omega
  exact ⟨_, rfl, false, rfl, ⟨fun h => absurd h (by simp), fun h => absurd h hq⟩, H6.below⟩
 ·
  refine gsy (v := Ad (bs g1) (0 + 1)) (gv_of (t := 15) rfl rfl rfl) (decide_eq_false hp7) (y_fld Try.underlying41 rfl rfl sz39 (by decide) rfl) ?_
  refine gsy (v := lv) (gv_of (t := 15) rfl rfl rfl) (decide_eq_false hp7) (y_load sc39 rfl (H6.cell 1 rfl rfl)) ?_
  refine gsy (v := I ((ls.length : Nat) : Int)) (gv_of (t := 15) rfl rfl rfl) (decide_eq_false hp7) (y_lenR Try.underlying39 (hL.st H6).rd rfl) ?_
  refine gsy (v := Ad (bs g4) (0 + 1)) (gv_of (t := 15) rfl rfl rfl) (decide_eq_false hp7) (y_fld Try.underlying41 rfl rfl sz39 (by decide) rfl) ?_
  refine gsy (v := lw) (gv_of (t := 15) rfl rfl rfl) (decide_eq_false hp7) (y_load sc39 rfl (H6.cell 0 rfl rfl)) ?_
  refine gsy (v := I ((ks.length : Nat) : Int)) (gv_of (t := 15) rfl rfl rfl) (decide_eq_false hp7) (y_lenR Try.underlying39 (hM.st H6).rd rfl) ?_
  refine gsy (v := .bool (decide (ls.length ≠ ks.length))) (gv_of (t := 15) rfl rfl rfl) (decide_eq_false hp7) (n_neq (a := ls.length) (b := ks.length) rfl rfl) ?_
  refine sy (v := .bool (decide (ls.length ≠ ks.length))) (y_pickF rfl (decide_eq_false hp7) rfl) ?_
  refine c_nil ?_
  refine n_then ?_
  refine c_if rfl (fun hc8 => ?_) (fun hc8 => ?_)
  ·
   refine c_seq ?_
   refine c_reg ?_
   refine sy (v := .bool (false)) (y_assign (v := .bool (false)) rfl) ?_
   refine c_nil ?_
   refine n_then ?_
   refine wp_ret ?_
   refine r_then ?_
   refine e_r1 Try.results39 (rv_t rfl) ?_
   have hq : ¬ (n = m ∧ PE ls = PE ks) := fun ⟨h1, h2⟩ => by have := (pe_get h2).1; omega
   exact ⟨_, rfl, false, rfl, ⟨fun h => absurd h (by simp), fun h => absurd h hq⟩, H6.below⟩
  ·
   refine wp_skip ?_
   refine n_then ?_
   refine c_seq ?_
   refine c_seq ?_
   refine c_reg ?_
   refine sy (v := I ((0 : Nat) : Int)) (y_assign (v := I ((0 : Nat) : Int)) rfl) ?_
   refine c_nil ?_
   refine n_then ?_
   refine wp_block ?_
   refine c_loop (fun (i : Nat) f9 w10 => f9 2 = Ad (bs g1) (0) ∧ f9 3 = Ad (bs g4) (0) ∧ f9 5 = I ((i : Nat) : Int) ∧ i ≤ ls.length ∧ (∀ j, j < i → (ls.getD j lf0).e = (ks.getD j lf0).e) ∧ St w [] [[(g4, Rw 41 ([I (m), lw]))], [(g1, Rw 41 ([I (n), lv]))]] w10) (fun i => ls.length - i) 0 ⟨rfl, rfl, rfl, (Nat.zero_le _), (fun j hj => absurd hj (by omega)), H6⟩ ?_
   rintro i f9 w10 ⟨s2_11, s3_11, s5_11, hi, hz, H11⟩
   refine c_seq ?_
   refine c_seq ?_
   refine c_reg ?_
   refine sy (v := I ((i : Nat) : Int)) (y_move s5_11) ?_
   refine sy (v := Ad (bs g1) (0 + 1)) (y_fld Try.underlying41 rfl rfl sz39 (by decide) s2_11) ?_
   refine sy (v := lv) (y_load sc39 rfl (H11.cell 1 rfl rfl)) ?_
   refine sy (v := I ((ls.length : Nat) : Int)) (y_lenR Try.underlying39 (hL.st H11).rd rfl) ?_
   refine sy (v := .bool (decide (i < ls.length))) (n_lss (a := i) (b := ls.length) rfl rfl) ?_
   refine c_nil ?_
   refine n_then ?_
   refine c_if rfl (fun hc12 => ?_) (fun hc12 => ?_)
   ·
    refine wp_skip ?_
    refine n_then ?_
    refine c_seq ?_
    refine wp_block ?_
    refine c_seq ?_
    have hpa := (hL.at (d := lf0) (i := i) (by omega)).le
    have hpb := (hM.at (d := lf0) (i := i) (by omega)).le
    refine drawS (.step 0 0 (.step 0 1 (.step 0 2 (.step 0 3 (.step 0 4 (.step 0 5 (.step 0 6 (.step 0 7 (.step 0 8 (.step 0 9 (.alt 10 (.step 1 11 (.step 1 12 (.step 1 13 .nil))) (.alt 11 (.step 1 10 (.step 1 12 (.step 1 13 .nil))) .stop)))))))))))) mixed H11 (by kernel_rfl) (by kernel_rfl) (by kernel_rfl) ?_
    intro w13 H14
    refine pt (v := Ad (bs g1) (0 + 1)) rfl (fun wS HS => y_fld Try.underlying41 rfl rfl sz39 (by decide) s2_11) ?_
    refine pt (v := lv) rfl (fun wS HS => y_load sc39 rfl (HS.cell 1 rfl rfl)) ?_
    refine pt (v := I ((i : Nat) : Int)) rfl (fun wS HS => y_move s5_11) ?_
    refine pt (v := Ad (sp (lv)) (i * 5)) rfl (fun wS HS => y_ixR (m := i) Try.underlying39 sz74 (hL.st HS).rd (by decide) rfl rfl rfl (by omega)) ?_
    refine pt (v := .agg ([I ((ls.getD i lf0).n), I (((ls.getD i lf0).cell).c.k), .string (bst (((ls.getD i lf0).cell).c.key)), ((ls.getD i lf0).cell).v, (ls.getD i lf0).pv]).toArray) rfl (fun wS HS => y_loadA (us := (ls.getD i lf0).cs) ag74 sz74 rfl rfl (fun j u hu => (hL.st HS).rd.cell _ _ (flat5_get (by omega) hu))) ?_
    refine pt (v := Ad (bs g4) (0 + 1)) rfl (fun wS HS => y_fld Try.underlying41 rfl rfl sz39 (by decide) s3_11) ?_
    refine pt (v := lw) rfl (fun wS HS => y_load sc39 rfl (HS.cell 0 rfl rfl)) ?_
    refine pt (v := I ((i : Nat) : Int)) rfl (fun wS HS => y_move s5_11) ?_
    refine pt (v := Ad (sp (lw)) (i * 5)) rfl (fun wS HS => y_ixR (m := i) Try.underlying39 sz74 (hM.st HS).rd (by decide) rfl rfl rfl (by omega)) ?_
    refine pt (v := .agg ([I ((ks.getD i lf0).n), I (((ks.getD i lf0).cell).c.k), .string (bst (((ks.getD i lf0).cell).c.key)), ((ks.getD i lf0).cell).v, (ks.getD i lf0).pv]).toArray) rfl (fun wS HS => y_loadA (us := (ks.getD i lf0).cs) ag74 sz74 rfl rfl (fun j u hu => (hM.st HS).rd.cell _ _ (flat5_get (by omega) hu))) ?_
    refine al rfl (ow_alloc (l := [I ((0 : Nat) : Int), I ((0 : Nat) : Int), .string (.empty), .slice none 0 0, .slice none 0 0]) H14 zr74 rfl) ?_ ?_
    ·
     rintro _ w16 ⟨g15, rfl, H17⟩
     have H18 : St w _ [_, _, _] w16 := H17.foc 2 rfl rfl
     have H19 : St w _ [_, _, _] w16 := H18.foc 2 rfl rfl
     have H20 : St w _ [_, _] w16 := H19.take 2 rfl
     refine ⟨H20, ?_⟩
     refine pl rfl (ow_alloc (l := [I ((0 : Nat) : Int), I ((0 : Nat) : Int), .string (.empty), .slice none 0 0, .slice none 0 0]) H17 zr74 rfl) ?_
     rintro _ w22 ⟨g21, rfl, H23⟩
     have H24 : St w _ [_, _, _, _] w22 := H23.foc 3 rfl rfl
     have H25 : St w _ [_, _, _, _] w22 := H24.foc 3 rfl rfl
     have H26 : St w _ [_, _] w22 := H25.take 2 rfl
     refine ⟨H26, ?_⟩
     have H27 : St w _ [_, _, _, _] w22 := H23.foc 1 rfl rfl
     refine p0 rfl (ow_storeW (us := [I ((ls.getD i lf0).n), I (((ls.getD i lf0).cell).c.k), .string (bst (((ls.getD i lf0).cell).c.key)), ((ls.getD i lf0).cell).v, (ls.getD i lf0).pv]) H27 sz74 rfl rfl rfl (by intro u hu; simp only [List.mem_cons, List.not_mem_nil, or_false] at hu; rcases hu with rfl | rfl | rfl | rfl | rfl <;> first | rfl | exact Rd.one (((hL.at (d := lf0) (i := i) (by omega)).cell).1.st H27) | exact Rd.one ((hL.at (d := lf0) (i := i) (by omega)).rd.st H27)) (by simp [*])) ?_
     rintro _ w28 H29'
     have H29 : St w _ [[(g15, Rw 74 ([I ((ls.getD i lf0).n), I (((ls.getD i lf0).cell).c.k), .string (bst (((ls.getD i lf0).cell).c.key)), ((ls.getD i lf0).cell).v, (ls.getD i lf0).pv]))], _, _, _] w28 := H29'
     have H30 : St w _ [_, _, _, _] w28 := H29.foc 3 rfl rfl
     have H31 : St w _ [_, _, _, _] w28 := H30.foc 3 rfl rfl
     have H32 : St w _ [_, _] w28 := H31.take 2 rfl
     refine ⟨H32, ?_⟩
     have H33 : St w _ [_, _, _, _] w28 := H29.foc 1 rfl rfl
     refine p0 rfl (ow_storeW (us := [I ((ks.getD i lf0).n), I (((ks.getD i lf0).cell).c.k), .string (bst (((ks.getD i lf0).cell).c.key)), ((ks.getD i lf0).cell).v, (ks.getD i lf0).pv]) H33 sz74 rfl rfl rfl (by intro u hu; simp only [List.mem_cons, List.not_mem_nil, or_false] at hu; rcases hu with rfl | rfl | rfl | rfl | rfl <;> first | rfl | exact Rd.one (((hM.at (d := lf0) (i := i) (by omega)).cell).1.st H33) | exact Rd.one ((hM.at (d := lf0) (i := i) (by omega)).rd.st H33)) (by simp [*])) ?_
     rintro _ w34 H35'
     have H35 : St w _ [[(g21, Rw 74 ([I ((ks.getD i lf0).n), I (((ks.getD i lf0).cell).c.k), .string (bst (((ks.getD i lf0).cell).c.key)), ((ks.getD i lf0).cell).v, (ks.getD i lf0).pv]))], _, _, _] w34 := H35'
     have H36 : St w _ [_, _, _, _] w34 := H35.foc 3 rfl rfl
     have H37 : St w _ [_, _, _, _] w34 := H36.foc 3 rfl rfl
     have H38 : St w _ [_, _] w34 := H37.take 2 rfl
     refine ⟨H38, ?_⟩
     refine p_nil ?_
     refine n_then ?_
     refine c_seq ?_
     refine c_reg ?_
     refine sy (v := Ad (bs g15) (0 + 1)) (y_fld Try.underlying74 rfl rfl sz48 (by decide) rfl) ?_
     refine sy (v := .agg ([I (((ls.getD i lf0).cell).c.k), .string (bst (((ls.getD i lf0).cell).c.key)), ((ls.getD i lf0).cell).v]).toArray) (y_loadA (us := [I (((ls.getD i lf0).cell).c.k), .string (bst (((ls.getD i lf0).cell).c.key)), ((ls.getD i lf0).cell).v]) ag48 sz48 rfl rfl (fun j u hu => (H35.cell 1 rfl (mid_get (us := [I (((ls.getD i lf0).cell).c.k), .string (bst (((ls.getD i lf0).cell).c.key)), ((ls.getD i lf0).cell).v]) rfl hu)))) ?_
     refine sy (v := Ad (bs g21) (0 + 1)) (y_fld Try.underlying74 rfl rfl sz48 (by decide) rfl) ?_
     refine sy (v := .agg ([I (((ks.getD i lf0).cell).c.k), .string (bst (((ks.getD i lf0).cell).c.key)), ((ks.getD i lf0).cell).v]).toArray) (y_loadA (us := [I (((ks.getD i lf0).cell).c.k), .string (bst (((ks.getD i lf0).cell).c.key)), ((ks.getD i lf0).cell).v]) ag48 sz48 rfl rfl (fun j u hu => (H35.cell 0 rfl (mid_get (us := [I (((ks.getD i lf0).cell).c.k), .string (bst (((ks.getD i lf0).cell).c.key)), ((ks.getD i lf0).cell).v]) rfl hu)))) ?_
     refine st (ow_call fn36 rfl (same_c ((ls.getD i lf0).cell) ((ks.getD i lf0).cell) _ (CR.st (hL.at (d := lf0) (i := i) (by omega)).cell H35).nil (CR.st (hM.at (d := lf0) (i := i) (by omega)).cell H35).nil) ⟨rfl, rfl, trivial⟩) ?_
     rintro _ w39 ⟨rfl, hB40⟩
     have H41 : St w _ [_, _, _, _] w39 := H35.call hB40
     refine sy (v := .bool (decide (sameC ((ls.getD i lf0).cell).c ((ks.getD i lf0).cell).c))) (y_assign rfl) ?_
     refine c_nil ?_
     refine n_then ?_
     refine c_seq ?_
     refine c_reg ?_
     refine sy (v := Ad (bs g15) (0 + 4)) (y_fld Try.underlying74 rfl rfl sz72 (by decide) rfl) ?_
     refine sy (v := (ls.getD i lf0).pv) (y_load sc72 rfl (H41.cell 1 rfl rfl)) ?_
     refine sy (v := Ad (bs g21) (0 + 4)) (y_fld Try.underlying74 rfl rfl sz72 (by decide) rfl) ?_
     refine sy (v := (ks.getD i lf0).pv) (y_load sc72 rfl (H41.cell 0 rfl rfl)) ?_
     refine st (ow_call fn95 rfl (hsame_c ((ls.getD i lf0).pv) ((ks.getD i lf0).pv) ((ls.getD i lf0).path) ((ks.getD i lf0).path) _ (((hL.at (d := lf0) (i := i) (by omega)).rd.st H41)).nil (((hM.at (d := lf0) (i := i) (by omega)).rd.st H41)).nil (hL.at (d := lf0) (i := i) (by omega)).h32 (hM.at (d := lf0) (i := i) (by omega)).h32 (by omega) (by omega)) ⟨rfl, rfl, trivial⟩) ?_
     rintro _ w42 ⟨rfl, hB43⟩
     have H44 : St w _ [_, _, _, _] w42 := H41.call hB43
     refine sy (v := .bool (decide (((ls.getD i lf0).path) = ((ks.getD i lf0).path)))) (y_assign rfl) ?_
     refine c_nil ?_
     refine n_then ?_
     refine c_seq ?_
     refine c_reg ?_
     refine sy (v := Ad (bs g15) (0 + 0)) (y_fld Try.underlying74 rfl rfl sz3 (by decide) rfl) ?_
     refine sy (v := I ((ls.getD i lf0).n)) (y_load sc3 rfl (H44.cell 1 rfl rfl)) ?_
     refine sy (v := Ad (bs g21) (0 + 0)) (y_fld Try.underlying74 rfl rfl sz3 (by decide) rfl) ?_
     refine sy (v := I ((ks.getD i lf0).n)) (y_load sc3 rfl (H44.cell 0 rfl rfl)) ?_
     refine sy (v := .bool (decide (((ls.getD i lf0).n) ≠ ((ks.getD i lf0).n)))) (y_neqK (i := ((ls.getD i lf0).n)) (j := ((ks.getD i lf0).n)) rfl rfl) ?_
     refine sy (v := .bool (decide (((ls.getD i lf0).n) ≠ ((ks.getD i lf0).n)))) (y_move rfl) ?_
     by_cases hp45 : ((ls.getD i lf0).n) ≠ ((ks.getD i lf0).n)
     ·
      refine gno (gv_of (t := 56) rfl rfl rfl) (decide_eq_true hp45) ?_
      refine gno (gv_of (t := 56) rfl rfl rfl) (decide_eq_true hp45) ?_
      refine sy (v := .bool (true)) (y_pickT (v := .bool (true)) rfl (decide_eq_true hp45) rfl) ?_
      refine sy (v := .bool (true)) (y_move rfl) ?_
      refine gno (t := true) (b := false) (gv_of (t := 60) rfl rfl rfl) (rfl) ?_
      refine gno (t := true) (b := false) (gv_of (t := 60) rfl rfl rfl) (rfl) ?_
      refine sy (v := .bool (true)) (y_pickT (v := .bool (true)) rfl (rfl) rfl) ?_
      refine c_nil ?_
      refine n_then ?_
      refine c_t rfl rfl ?_
      refine c_seq ?_
      refine c_reg ?_
      refine sy (v := .bool (false)) (y_assign (v := .bool (false)) rfl) ?_
      refine c_nil ?_
      refine n_then ?_
      refine wp_ret ?_
      refine r_block (r_then (r_then (r_block (r_then ?_))))
      refine e_r1 Try.results39 (rv_t rfl) ?_
      have hq : ¬ (n = m ∧ PE ls = PE ks) := fun ⟨h1, h2⟩ => by
       obtain ⟨q1, q2, q3⟩ := le_iff.1 ((pe_get h2).2 i (by omega))
       first | exact absurd q1 (by assumption) | exact absurd q2 (by assumption) | exact absurd q3 (by assumption)
      exact ⟨_, rfl, false, rfl, ⟨fun h => absurd h (by simp), fun h => absurd h hq⟩, H44.below⟩
     ·
      refine gsy (v := .bool (decide (sameC ((ls.getD i lf0).cell).c ((ks.getD i lf0).cell).c))) (gv_of (t := 56) rfl rfl rfl) (decide_eq_false hp45) (y_move rfl) ?_
      refine gsy (v := .bool (decide (¬ (sameC ((ls.getD i lf0).cell).c ((ks.getD i lf0).cell).c)))) (gv_of (t := 56) rfl rfl rfl) (decide_eq_false hp45) (y_notP rfl) ?_
      refine sy (v := .bool (decide (¬ (sameC ((ls.getD i lf0).cell).c ((ks.getD i lf0).cell).c)))) (y_pickF rfl (decide_eq_false hp45) rfl) ?_
      refine sy (v := .bool (decide (¬ (sameC ((ls.getD i lf0).cell).c ((ks.getD i lf0).cell).c)))) (y_move rfl) ?_
      by_cases hp46 : ¬ (sameC ((ls.getD i lf0).cell).c ((ks.getD i lf0).cell).c)
      ·
       refine gno (gv_of (t := 60) rfl rfl rfl) (decide_eq_true hp46) ?_
       refine gno (gv_of (t := 60) rfl rfl rfl) (decide_eq_true hp46) ?_
       refine sy (v := .bool (true)) (y_pickT (v := .bool (true)) rfl (decide_eq_true hp46) rfl) ?_
       refine c_nil ?_
       refine n_then ?_
       refine c_t rfl rfl ?_
       refine c_seq ?_
       refine c_reg ?_
       refine sy (v := .bool (false)) (y_assign (v := .bool (false)) rfl) ?_
       refine c_nil ?_
       refine n_then ?_
       refine wp_ret ?_
       refine r_block (r_then (r_then (r_block (r_then ?_))))
       refine e_r1 Try.results39 (rv_t rfl) ?_
       have hq : ¬ (n = m ∧ PE ls = PE ks) := fun ⟨h1, h2⟩ => by
        obtain ⟨q1, q2, q3⟩ := le_iff.1 ((pe_get h2).2 i (by omega))
        first | exact absurd q1 (by assumption) | exact absurd q2 (by assumption) | exact absurd q3 (by assumption)
       exact ⟨_, rfl, false, rfl, ⟨fun h => absurd h (by simp), fun h => absurd h hq⟩, H44.below⟩
      ·
       refine gsy (v := .bool (decide (((ls.getD i lf0).path) = ((ks.getD i lf0).path)))) (gv_of (t := 60) rfl rfl rfl) (decide_eq_false hp46) (y_move rfl) ?_
       refine gsy (v := .bool (decide (¬ (((ls.getD i lf0).path) = ((ks.getD i lf0).path))))) (gv_of (t := 60) rfl rfl rfl) (decide_eq_false hp46) (y_notP rfl) ?_
       refine sy (v := .bool (decide (¬ (((ls.getD i lf0).path) = ((ks.getD i lf0).path))))) (y_pickF rfl (decide_eq_false hp46) rfl) ?_
       refine c_nil ?_
       refine n_then ?_
       refine c_if rfl (fun hc47 => ?_) (fun hc47 => ?_)
       ·
        refine c_seq ?_
        refine c_reg ?_
        refine sy (v := .bool (false)) (y_assign (v := .bool (false)) rfl) ?_
        refine c_nil ?_
        refine n_then ?_
        refine wp_ret ?_
        refine r_block (r_then (r_then (r_block (r_then ?_))))
        refine e_r1 Try.results39 (rv_t rfl) ?_
        have hq : ¬ (n = m ∧ PE ls = PE ks) := fun ⟨h1, h2⟩ => by
         obtain ⟨q1, q2, q3⟩ := le_iff.1 ((pe_get h2).2 i (by omega))
         first | exact absurd q1 (by assumption) | exact absurd q2 (by assumption) | exact absurd q3 (by assumption)
        exact ⟨_, rfl, false, rfl, ⟨fun h => absurd h (by simp), fun h => absurd h hq⟩, H44.below⟩
       ·
        refine wp_skip ?_
        refine n_block (n_then ?_)
        refine c_reg ?_
        refine sy (v := I ((i : Nat) : Int)) (y_move s5_11) ?_
        refine sy (v := I ((i + 1 : Nat) : Int)) (n_add (a := i) (b := 1) rfl rfl (by omega)) ?_
        refine sy (v := I ((i + 1 : Nat) : Int)) (y_assign rfl) ?_
        refine c_nil ?_
        have H48 : St w _ [_, _, _, _] w42 := H44.foc 3 rfl rfl
        have H49 : St w _ [_, _, _, _] w42 := H48.foc 3 rfl rfl
        have H50 : St w _ [_, _] w42 := H49.take 2 rfl
        exact lp_next (i + 1) ⟨s2_11, s3_11, rfl, (by omega), (fun j hj => by
         by_cases e : j = i
         · rw [e]; exact le_iff.2 ⟨by first | assumption | exact Decidable.not_not.1 (by assumption), by first | assumption | exact Decidable.not_not.1 (by assumption), by first | assumption | exact Decidable.not_not.1 (by assumption)⟩
         · exact hz j (by omega)), H50⟩ (by show _ < _; omega)
    refine al rfl (ow_alloc (l := [I ((0 : Nat) : Int), I ((0 : Nat) : Int), .string (.empty), .slice none 0 0, .slice none 0 0]) H14 zr74 rfl) ?_ ?_
    ·
     rintro _ w52 ⟨g51, rfl, H53⟩
     have H54 : St w _ [_, _, _] w52 := H53.foc 2 rfl rfl
     have H55 : St w _ [_, _, _] w52 := H54.foc 2 rfl rfl
     have H56 : St w _ [_, _] w52 := H55.take 2 rfl
     refine ⟨H56, ?_⟩
     refine pl rfl (ow_alloc (l := [I ((0 : Nat) : Int), I ((0 : Nat) : Int), .string (.empty), .slice none 0 0, .slice none 0 0]) H53 zr74 rfl) ?_
     rintro _ w58 ⟨g57, rfl, H59⟩
     have H60 : St w _ [_, _, _, _] w58 := H59.foc 3 rfl rfl
     have H61 : St w _ [_, _, _, _] w58 := H60.foc 3 rfl rfl
     have H62 : St w _ [_, _] w58 := H61.take 2 rfl
     refine ⟨H62, ?_⟩
     refine p0 rfl (ow_storeW (us := [I ((ls.getD i lf0).n), I (((ls.getD i lf0).cell).c.k), .string (bst (((ls.getD i lf0).cell).c.key)), ((ls.getD i lf0).cell).v, (ls.getD i lf0).pv]) H59 sz74 rfl rfl rfl (by intro u hu; simp only [List.mem_cons, List.not_mem_nil, or_false] at hu; rcases hu with rfl | rfl | rfl | rfl | rfl <;> first | rfl | exact Rd.one (((hL.at (d := lf0) (i := i) (by omega)).cell).1.st H59) | exact Rd.one ((hL.at (d := lf0) (i := i) (by omega)).rd.st H59)) (by simp [*])) ?_
     rintro _ w63 H64'
     have H64 : St w _ [[(g57, Rw 74 ([I ((ls.getD i lf0).n), I (((ls.getD i lf0).cell).c.k), .string (bst (((ls.getD i lf0).cell).c.key)), ((ls.getD i lf0).cell).v, (ls.getD i lf0).pv]))], _, _, _] w63 := H64'
     have H65 : St w _ [_, _, _, _] w63 := H64.foc 3 rfl rfl
     have H66 : St w _ [_, _, _, _] w63 := H65.foc 3 rfl rfl
     have H67 : St w _ [_, _] w63 := H66.take 2 rfl
     refine ⟨H67, ?_⟩
     have H68 : St w _ [_, _, _, _] w63 := H64.foc 1 rfl rfl
     refine p0 rfl (ow_storeW (us := [I ((ks.getD i lf0).n), I (((ks.getD i lf0).cell).c.k), .string (bst (((ks.getD i lf0).cell).c.key)), ((ks.getD i lf0).cell).v, (ks.getD i lf0).pv]) H68 sz74 rfl rfl rfl (by intro u hu; simp only [List.mem_cons, List.not_mem_nil, or_false] at hu; rcases hu with rfl | rfl | rfl | rfl | rfl <;> first | rfl | exact Rd.one (((hM.at (d := lf0) (i := i) (by omega)).cell).1.st H68) | exact Rd.one ((hM.at (d := lf0) (i := i) (by omega)).rd.st H68)) (by simp [*])) ?_
     rintro _ w69 H70'
     have H70 : St w _ [[(g51, Rw 74 ([I ((ks.getD i lf0).n), I (((ks.getD i lf0).cell).c.k), .string (bst (((ks.getD i lf0).cell).c.key)), ((ks.getD i lf0).cell).v, (ks.getD i lf0).pv]))], _, _, _] w69 := H70'
     have H71 : St w _ [_, _, _, _] w69 := H70.foc 3 rfl rfl
     have H72 : St w _ [_, _, _, _] w69 := H71.foc 3 rfl rfl
     have H73 : St w _ [_, _] w69 := H72.take 2 rfl
     refine ⟨H73, ?_⟩
     refine p_nil ?_
     refine n_then ?_
     refine c_seq ?_
     refine c_reg ?_
     refine sy (v := Ad (bs g57) (0 + 1)) (y_fld Try.underlying74 rfl rfl sz48 (by decide) rfl) ?_
     refine sy (v := .agg ([I (((ls.getD i lf0).cell).c.k), .string (bst (((ls.getD i lf0).cell).c.key)), ((ls.getD i lf0).cell).v]).toArray) (y_loadA (us := [I (((ls.getD i lf0).cell).c.k), .string (bst (((ls.getD i lf0).cell).c.key)), ((ls.getD i lf0).cell).v]) ag48 sz48 rfl rfl (fun j u hu => (H70.cell 1 rfl (mid_get (us := [I (((ls.getD i lf0).cell).c.k), .string (bst (((ls.getD i lf0).cell).c.key)), ((ls.getD i lf0).cell).v]) rfl hu)))) ?_
     refine sy (v := Ad (bs g51) (0 + 1)) (y_fld Try.underlying74 rfl rfl sz48 (by decide) rfl) ?_
     refine sy (v := .agg ([I (((ks.getD i lf0).cell).c.k), .string (bst (((ks.getD i lf0).cell).c.key)), ((ks.getD i lf0).cell).v]).toArray) (y_loadA (us := [I (((ks.getD i lf0).cell).c.k), .string (bst (((ks.getD i lf0).cell).c.key)), ((ks.getD i lf0).cell).v]) ag48 sz48 rfl rfl (fun j u hu => (H70.cell 0 rfl (mid_get (us := [I (((ks.getD i lf0).cell).c.k), .string (bst (((ks.getD i lf0).cell).c.key)), ((ks.getD i lf0).cell).v]) rfl hu)))) ?_
     refine st (ow_call fn36 rfl (same_c ((ls.getD i lf0).cell) ((ks.getD i lf0).cell) _ (CR.st (hL.at (d := lf0) (i := i) (by omega)).cell H70).nil (CR.st (hM.at (d := lf0) (i := i) (by omega)).cell H70).nil) ⟨rfl, rfl, trivial⟩) ?_
     rintro _ w74 ⟨rfl, hB75⟩
     have H76 : St w _ [_, _, _, _] w74 := H70.call hB75
     refine sy (v := .bool (decide (sameC ((ls.getD i lf0).cell).c ((ks.getD i lf0).cell).c))) (y_assign rfl) ?_
     refine c_nil ?_
     refine n_then ?_
     refine c_seq ?_
     refine c_reg ?_
     refine sy (v := Ad (bs g57) (0 + 4)) (y_fld Try.underlying74 rfl rfl sz72 (by decide) rfl) ?_
     refine sy (v := (ls.getD i lf0).pv) (y_load sc72 rfl (H76.cell 1 rfl rfl)) ?_
     refine sy (v := Ad (bs g51) (0 + 4)) (y_fld Try.underlying74 rfl rfl sz72 (by decide) rfl) ?_
     refine sy (v := (ks.getD i lf0).pv) (y_load sc72 rfl (H76.cell 0 rfl rfl)) ?_
     refine st (ow_call fn95 rfl (hsame_c ((ls.getD i lf0).pv) ((ks.getD i lf0).pv) ((ls.getD i lf0).path) ((ks.getD i lf0).path) _ (((hL.at (d := lf0) (i := i) (by omega)).rd.st H76)).nil (((hM.at (d := lf0) (i := i) (by omega)).rd.st H76)).nil (hL.at (d := lf0) (i := i) (by omega)).h32 (hM.at (d := lf0) (i := i) (by omega)).h32 (by omega) (by omega)) ⟨rfl, rfl, trivial⟩) ?_
     rintro _ w77 ⟨rfl, hB78⟩
     have H79 : St w _ [_, _, _, _] w77 := H76.call hB78
     refine sy (v := .bool (decide (((ls.getD i lf0).path) = ((ks.getD i lf0).path)))) (y_assign rfl) ?_
     refine c_nil ?_
     refine n_then ?_
     refine c_seq ?_
     refine c_reg ?_
     refine sy (v := Ad (bs g57) (0 + 0)) (y_fld Try.underlying74 rfl rfl sz3 (by decide) rfl) ?_
     refine sy (v := I ((ls.getD i lf0).n)) (y_load sc3 rfl (H79.cell 1 rfl rfl)) ?_
     refine sy (v := Ad (bs g51) (0 + 0)) (y_fld Try.underlying74 rfl rfl sz3 (by decide) rfl) ?_
     refine sy (v := I ((ks.getD i lf0).n)) (y_load sc3 rfl (H79.cell 0 rfl rfl)) ?_
     refine sy (v := .bool (decide (((ls.getD i lf0).n) ≠ ((ks.getD i lf0).n)))) (y_neqK (i := ((ls.getD i lf0).n)) (j := ((ks.getD i lf0).n)) rfl rfl) ?_
     refine sy (v := .bool (decide (((ls.getD i lf0).n) ≠ ((ks.getD i lf0).n)))) (y_move rfl) ?_
     by_cases hp80 : ((ls.getD i lf0).n) ≠ ((ks.getD i lf0).n)
     ·
      refine gno (gv_of (t := 56) rfl rfl rfl) (decide_eq_true hp80) ?_
      refine gno (gv_of (t := 56) rfl rfl rfl) (decide_eq_true hp80) ?_
      refine sy (v := .bool (true)) (y_pickT (v := .bool (true)) rfl (decide_eq_true hp80) rfl) ?_
      refine sy (v := .bool (true)) (y_move rfl) ?_
      refine gno (t := true) (b := false) (gv_of (t := 60) rfl rfl rfl) (rfl) ?_
      refine gno (t := true) (b := false) (gv_of (t := 60) rfl rfl rfl) (rfl) ?_
      refine sy (v := .bool (true)) (y_pickT (v := .bool (true)) rfl (rfl) rfl) ?_
      refine c_nil ?_
      refine n_then ?_
      refine c_t rfl rfl ?_
      refine c_seq ?_
      refine c_reg ?_
      refine sy (v := .bool (false)) (y_assign (v := .bool (false)) rfl) ?_
      refine c_nil ?_
      refine n_then ?_
      refine wp_ret ?_
      refine r_block (r_then (r_then (r_block (r_then ?_))))
      refine e_r1 Try.results39 (rv_t rfl) ?_
      have hq : ¬ (n = m ∧ PE ls = PE ks) := fun ⟨h1, h2⟩ => by
       obtain ⟨q1, q2, q3⟩ := le_iff.1 ((pe_get h2).2 i (by omega))
       first | exact absurd q1 (by assumption) | exact absurd q2 (by assumption) | exact absurd q3 (by assumption)
      exact ⟨_, rfl, false, rfl, ⟨fun h => absurd h (by simp), fun h => absurd h hq⟩, H79.below⟩
     ·
      refine gsy (v := .bool (decide (sameC ((ls.getD i lf0).cell).c ((ks.getD i lf0).cell).c))) (gv_of (t := 56) rfl rfl rfl) (decide_eq_false hp80) (y_move rfl) ?_
      refine gsy (v := .bool (decide (¬ (sameC ((ls.getD i lf0).cell).c ((ks.getD i lf0).cell).c)))) (gv_of (t := 56) rfl rfl rfl) (decide_eq_false hp80) (y_notP rfl) ?_
      refine sy (v := .bool (decide (¬ (sameC ((ls.getD i lf0).cell).c ((ks.getD i lf0).cell).c)))) (y_pickF rfl (decide_eq_false hp80) rfl) ?_
      refine sy (v := .bool (decide (¬ (sameC ((ls.getD i lf0).cell).c ((ks.getD i lf0).cell).c)))) (y_move rfl) ?_
      by_cases hp81 : ¬ (sameC ((ls.getD i lf0).cell).c ((ks.getD i lf0).cell).c)
      ·
       refine gno (gv_of (t := 60) rfl rfl rfl) (decide_eq_true hp81) ?_
       refine gno (gv_of (t := 60) rfl rfl rfl) (decide_eq_true hp81) ?_
       refine sy (v := .bool (true)) (y_pickT (v := .bool (true)) rfl (decide_eq_true hp81) rfl) ?_
       refine c_nil ?_
       refine n_then ?_
       refine c_t rfl rfl ?_
       refine c_seq ?_
       refine c_reg ?_
       refine sy (v := .bool (false)) (y_assign (v := .bool (false)) rfl) ?_
       refine c_nil ?_
       refine n_then ?_
       refine wp_ret ?_
       refine r_block (r_then (r_then (r_block (r_then ?_))))
       refine e_r1 Try.results39 (rv_t rfl) ?_
       have hq : ¬ (n = m ∧ PE ls = PE ks) := fun ⟨h1, h2⟩ => by
        obtain ⟨q1, q2, q3⟩ := le_iff.1 ((pe_get h2).2 i (by omega))
        first | exact absurd q1 (by assumption) | exact absurd q2 (by assumption) | exact absurd q3 (by assumption)
       exact ⟨_, rfl, false, rfl, ⟨fun h => absurd h (by simp), fun h => absurd h hq⟩, H79.below⟩
      ·
       refine gsy (v := .bool (decide (((ls.getD i lf0).path) = ((ks.getD i lf0).path)))) (gv_of (t := 60) rfl rfl rfl) (decide_eq_false hp81) (y_move rfl) ?_
       refine gsy (v := .bool (decide (¬ (((ls.getD i lf0).path) = ((ks.getD i lf0).path))))) (gv_of (t := 60) rfl rfl rfl) (decide_eq_false hp81) (y_notP rfl) ?_
       refine sy (v := .bool (decide (¬ (((ls.getD i lf0).path) = ((ks.getD i lf0).path))))) (y_pickF rfl (decide_eq_false hp81) rfl) ?_
       refine c_nil ?_
       refine n_then ?_
       refine c_if rfl (fun hc82 => ?_) (fun hc82 => ?_)
       ·
        refine c_seq ?_
        refine c_reg ?_
        refine sy (v := .bool (false)) (y_assign (v := .bool (false)) rfl) ?_
        refine c_nil ?_
        refine n_then ?_
        refine wp_ret ?_
        refine r_block (r_then (r_then (r_block (r_then ?_))))
        refine e_r1 Try.results39 (rv_t rfl) ?_
        have hq : ¬ (n = m ∧ PE ls = PE ks) := fun ⟨h1, h2⟩ => by
         obtain ⟨q1, q2, q3⟩ := le_iff.1 ((pe_get h2).2 i (by omega))
         first | exact absurd q1 (by assumption) | exact absurd q2 (by assumption) | exact absurd q3 (by assumption)
        exact ⟨_, rfl, false, rfl, ⟨fun h => absurd h (by simp), fun h => absurd h hq⟩, H79.below⟩
       ·
        refine wp_skip ?_
        refine n_block (n_then ?_)
        refine c_reg ?_
        refine sy (v := I ((i : Nat) : Int)) (y_move s5_11) ?_
        refine sy (v := I ((i + 1 : Nat) : Int)) (n_add (a := i) (b := 1) rfl rfl (by omega)) ?_
        refine sy (v := I ((i + 1 : Nat) : Int)) (y_assign rfl) ?_
        refine c_nil ?_
        have H83 : St w _ [_, _, _, _] w77 := H79.foc 3 rfl rfl
        have H84 : St w _ [_, _, _, _] w77 := H83.foc 3 rfl rfl
        have H85 : St w _ [_, _] w77 := H84.take 2 rfl
        exact lp_next (i + 1) ⟨s2_11, s3_11, rfl, (by omega), (fun j hj => by
         by_cases e : j = i
         · rw [e]; exact le_iff.2 ⟨by first | assumption | exact Decidable.not_not.1 (by assumption), by first | assumption | exact Decidable.not_not.1 (by assumption), by first | assumption | exact Decidable.not_not.1 (by assumption)⟩
         · exact hz j (by omega)), H85⟩ (by show _ < _; omega)
    exact a_stop
   ·
    refine wp_exit ?_
    refine x_then (x_then (x_hit (n_then ?_)))
    refine c_seq ?_
    refine c_reg ?_
    refine sy (v := .bool (true)) (y_assign (v := .bool (true)) rfl) ?_
    refine c_nil ?_
    refine n_then ?_
    refine wp_ret ?_
    refine e_r1 Try.results39 (rv_t rfl) ?_
    have hnm : n = m := by first | assumption | exact Decidable.not_not.1 (by assumption)
    exact ⟨_, rfl, true, rfl, ⟨fun _ => ⟨hnm, pe_ext (by omega) (fun j hj => hz j (by omega))⟩, fun _ => rfl⟩, H11.below⟩

end Go.Proofs.Ytdcmbcjkdhdohaa
