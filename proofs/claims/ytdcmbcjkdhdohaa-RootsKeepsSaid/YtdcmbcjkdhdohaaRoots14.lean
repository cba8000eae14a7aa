/- The walk of the reference's Find. -/
import Derived.Test.YtdcmbcjkdhdohaaRoots13
namespace Go.Proofs.Ytdcmbcjkdhdohaa
open Go Go.RowKit
set_option linter.unusedSimpArgs false
set_option linter.unusedVariables false
attribute [local irreducible] wpList wpP Code.wp

def midL (kind : Int) (key : List UInt8) (cs : List Cl) (i : Nat) : List Le := if 0 < i ∧ (i = cs.length ∨ 0 < plcI kind key cs i) then [leafAt (PL cs) (i - 1)] else []
theorem mid_yes {kind : Int} {key : List UInt8} {cs : List Cl} {i : Nat} (h : 0 < i ∧ (i = cs.length ∨ 0 < plcI kind key cs i)) : midL kind key cs i = [leafAt (PL cs) (i - 1)] := if_pos h
theorem mid_no {kind : Int} {key : List UInt8} {cs : List Cl} {i : Nat} (h : ¬ (0 < i ∧ (i = cs.length ∨ 0 < plcI kind key cs i))) : midL kind key cs i = [] := if_neg h
theorem hit_iff {kind : Int} {key : List UInt8} {cs : List Cl} {i : Nat} : hitAt kind key (PL cs) i ↔ i < cs.length ∧ plcI kind key cs i = 0 := by
  unfold hitAt; rw [List.length_map, pl_getD]
theorem isP_mk {kind : Int} {key : List UInt8} {cs : List Cl} {i : Nat} (h1 : i ≤ cs.length) (h2 : ∀ j, j < i → plcI kind key cs j < 0) (h3 : i < cs.length → ¬ plcI kind key cs i < 0) : IsP kind key (PL cs) i :=
  ⟨by rw [List.length_map]; exact h1, fun j hj => by rw [pl_getD]; exact h2 j hj, fun h => by rw [pl_getD]; rw [List.length_map] at h; exact h3 h⟩
theorem at_hit {kind : Int} {key : List UInt8} {cs : List Cl} {i : Nat} (h : i < cs.length) (h2 : plcI kind key cs i = 0) : leavesAt kind key (PL cs) i = [leafAt (PL cs) i] := if_pos (hit_iff.2 ⟨h, h2⟩)
theorem at_pos {kind : Int} {key : List UInt8} {cs : List Cl} {i : Nat} (h : i < cs.length) (h2 : 0 < plcI kind key cs i) : leavesAt kind key (PL cs) i = midL kind key cs i ++ [leafAt (PL cs) i] := by
  unfold leavesAt
  rw [if_neg (fun h3 => by have := (hit_iff.1 h3).2; omega), List.length_map, if_pos h]
  by_cases h0 : 0 < i
  · rw [if_pos h0, mid_yes ⟨h0, .inr h2⟩]
  · rw [if_neg h0, mid_no (fun h3 => h0 h3.1)]
theorem at_end {kind : Int} {key : List UInt8} {cs : List Cl} : leavesAt kind key (PL cs) cs.length = midL kind key cs cs.length := by
  unfold leavesAt
  rw [if_neg (fun h3 => by have := (hit_iff.1 h3).1; omega), List.length_map, if_neg (Nat.lt_irrefl _), List.append_nil]
  by_cases h0 : 0 < cs.length
  · rw [if_pos h0, mid_yes ⟨h0, .inl rfl⟩]
  · rw [if_neg h0, mid_no (fun h3 => h0 h3.1)]
theorem os_leaf {g : Nat} {f : Lf} : OS 74 5 (.slice (some (bs g)) 1 1) 1 f.cs [(g, Rw 74 f.cs)] := .inr ⟨g, 1, f.cs, rfl, rfl, Nat.le_refl _, by simp [maxLen], rfl, rfl⟩

attribute [local irreducible] leafH innerH topH rootH rootA sha checkA

set_option maxHeartbeats 4000000 in
set_option maxRecDepth 20000 in
theorem rfind_c (kind : Int) (key : List UInt8) (v0 : Value) (cs : List Cl) (w : World) (hC : CsR [] w v0 cs) :
    Calls Try.prog 46 (([v0, I (kind), .string (bst key)] : List Value).toArray) w (fun e w' => ∃ v, e = .returned v ∧ ∃ (n' : Nat) (lv : Value) (ls : List Lf) (err : Nat) (EB : Part), v = .tuple #[.agg ([I ((n' : Nat) : Int), lv] : List Value).toArray, I ((err : Nat) : Int)] ∧ FindsA kind key (PL cs) n' (PE ls) err ∧ LsP lv ls EB ∧ St w [] [EB] w') := by
 have hle := hC.le
 refine calls_mk Try.func46 rfl 142 Try.ntmps46 rfl ?_
 have H0 : St w [] [] w := St.refl w
 refine c_seq ?_
 refine c_reg ?_
 refine st (ow_alloc (l := [I ((0 : Nat) : Int), .slice none 0 0]) H0 zr41 rfl) ?_
 rintro _ w2 ⟨g1, rfl, H3⟩
 refine sy (v := I ((0 : Nat) : Int)) (y_assign (v := I ((0 : Nat) : Int)) rfl) ?_
 refine c_nil ?_
 refine n_then ?_
 refine c_seq ?_
 refine c_reg ?_
 refine sy (v := I (kind)) (y_move rfl) ?_
 refine st (ow_call fn83 rfl (kindMay_c (kind) _) ⟨rfl, trivial⟩) ?_
 rintro _ w4 ⟨rfl, hB5⟩
 have H6 : St w _ [_] w4 := H3.call hB5
 refine sy (v := .bool (decide (kMay kind))) (y_assign rfl) ?_
 refine c_nil ?_
 refine n_then ?_
 refine c_seq ?_
 refine c_seq ?_
 refine c_reg ?_
 refine sy (v := .bool (decide (kMay kind))) (y_move rfl) ?_
 refine sy (v := .bool (decide (¬ (kMay kind)))) (y_notP rfl) ?_
 refine c_nil ?_
 refine n_then ?_
 refine c_if rfl (fun hc7 => ?_) (fun hc7 => ?_)
 ·
  refine c_seq ?_
  refine c_reg ?_
  refine sy (v := .agg ([I ((0 : Nat) : Int), .slice none 0 0]).toArray) (y_build (parts := []) (pv := []) (us := [I ((0 : Nat) : Int), .slice none 0 0]) trivial (by kernel_rfl)) ?_
  refine s0 (ow_storeW (us := [I ((0 : Nat) : Int), .slice none 0 0]) H6 sz41 rfl rfl rfl (by simp [Value.oneCell']) (by simp [*])) ?_
  rintro _ w8 H9'
  have H9 : St w _ [[(g1, Rw 41 ([I ((0 : Nat) : Int), .slice none 0 0]))]] w8 := H9'
  refine sy (v := I ((40 : Nat) : Int)) (y_assign (v := I ((40 : Nat) : Int)) rfl) ?_
  refine c_nil ?_
  refine n_then ?_
  refine wp_ret ?_
  refine r_then ?_
  refine e_r2 Try.results46 (rv_b H9 (i := 0) rfl ag41 sz41 rfl rfl) (rv_t rfl) ?_
  exact ⟨_, rfl, 0, _, [], 40, _, rfl, .inl ⟨by assumption, rfl, rfl, rfl⟩, LsP.nil, (H9.take 0 rfl).nilp⟩
 ·
  refine wp_skip ?_
  refine n_then ?_
  refine c_seq ?_
  refine c_reg ?_
  refine sy (v := v0) (y_move rfl) ?_
  refine st (ow_call fn33 rfl (Wrong_c (v0) (cs) _ (hC.st H6).nil) ⟨rfl, trivial⟩) ?_
  rintro _ w10 ⟨rfl, hB11⟩
  have H12 : St w _ [_] w10 := H6.call hB11
  refine sy (v := I ((wrong (cs.map (fun q : Cl => q.c)) : Nat) : Int)) (y_assign rfl) ?_
  refine c_nil ?_
  refine n_then ?_
  refine c_seq ?_
  refine c_seq ?_
  refine c_reg ?_
  refine sy (v := I ((wrong (cs.map (fun q : Cl => q.c)) : Nat) : Int)) (y_move rfl) ?_
  refine sy (v := .bool (decide ((wrong (cs.map (fun q : Cl => q.c))) ≠ 0))) (n_neq (a := wrong (cs.map (fun q : Cl => q.c))) (b := 0) rfl rfl) ?_
  refine c_nil ?_
  refine n_then ?_
  refine c_if rfl (fun hc13 => ?_) (fun hc13 => ?_)
  ·
   refine c_seq ?_
   refine c_reg ?_
   refine sy (v := .agg ([I ((0 : Nat) : Int), .slice none 0 0]).toArray) (y_build (parts := []) (pv := []) (us := [I ((0 : Nat) : Int), .slice none 0 0]) trivial (by kernel_rfl)) ?_
   refine sy (v := I ((wrong (cs.map (fun q : Cl => q.c)) : Nat) : Int)) (y_move rfl) ?_
   refine s0 (ow_storeW (us := [I ((0 : Nat) : Int), .slice none 0 0]) H12 sz41 rfl rfl rfl (by simp [Value.oneCell']) (by simp [*])) ?_
   rintro _ w14 H15'
   have H15 : St w _ [[(g1, Rw 41 ([I ((0 : Nat) : Int), .slice none 0 0]))]] w14 := H15'
   refine sy (v := I ((wrong (cs.map (fun q : Cl => q.c)) : Nat) : Int)) (y_assign rfl) ?_
   refine c_nil ?_
   refine n_then ?_
   refine wp_ret ?_
   refine r_then ?_
   refine e_r2 Try.results46 (rv_b H15 (i := 0) rfl ag41 sz41 rfl rfl) (rv_t rfl) ?_
   exact ⟨_, rfl, 0, _, [], _, _, rfl, .inr (.inl ⟨by first | assumption | exact Decidable.not_not.1 (by assumption), by assumption, rfl, rfl, rfl⟩), LsP.nil, (H15.take 0 rfl).nilp⟩
  ·
   refine wp_skip ?_
   refine n_then ?_
   refine c_seq ?_
   refine c_reg ?_
   refine sy (v := v0) (y_move rfl) ?_
   refine sy (v := I ((cs.length : Nat) : Int)) (y_lenR Try.underlying38 (hC.st H12).rd rfl) ?_
   refine sy (v := .agg ([I ((cs.length : Nat) : Int), .slice none 0 0]).toArray) (y_build (pv := [(0, I ((cs.length : Nat) : Int))]) (us := [I ((cs.length : Nat) : Int), .slice none 0 0]) ⟨⟨rfl, rfl⟩, trivial⟩ (by kernel_rfl)) ?_
   refine st (ow_alloc (l := [I ((0 : Nat) : Int), .slice none 0 0]) H12 zr41 rfl) ?_
   rintro _ w17 ⟨g16, rfl, H18⟩
   refine s0 (ow_storeW (us := [I ((cs.length : Nat) : Int), .slice none 0 0]) H18 sz41 rfl rfl rfl (by simp [Value.oneCell']) (by simp [*])) ?_
   rintro _ w19 H20'
   have H20 : St w _ [[(g16, Rw 41 ([I ((cs.length : Nat) : Int), .slice none 0 0]))], _] w19 := H20'
   refine c_nil ?_
   refine n_then ?_
   refine c_seq ?_
   refine c_seq ?_
   have H21 : St w _ [_, _, _] w19 := H20.nilp
   have H22 : St w _ [_, _, _, _] w19 := H21.nilp
   have hwr : wrong (PL cs) = 0 := Decidable.not_not.1 (show ¬ ¬ (wrong (PL cs) = 0) by assumption)
   have hkm : kMay kind := by first | assumption | exact Decidable.not_not.1 (by assumption)
   refine c_reg ?_
   refine sy (v := I ((0 : Nat) : Int)) (y_assign (v := I ((0 : Nat) : Int)) rfl) ?_
   refine c_nil ?_
   refine n_then ?_
   refine wp_block ?_
   refine c_loop (fun (i : Nat) f23 w24 => ∃ (lv : Value), ∃ (E : Part), ∃ (F : Part), ∃ (ls : List Lf), f23 0 = v0 ∧ f23 1 = I (kind) ∧ f23 2 = .string (bst key) ∧ f23 6 = Ad (bs g1) (0) ∧ f23 10 = Ad (bs g16) (0) ∧ f23 11 = I ((i : Nat) : Int) ∧ i ≤ cs.length ∧ (∀ j, j < i → plcI kind key cs j < 0) ∧ OS 74 5 lv ls.length (ls.flatMap Lf.cs) E ∧ LeafsP ls F ∧ ls.length ≤ 1 ∧ PE ls = midL kind key cs i ∧ St w [] [E, F, [(g16, Rw 41 ([I ((cs.length : Nat) : Int), lv]))], [(g1, Rw 41 ([I ((0 : Nat) : Int), .slice none 0 0]))]] w24) (fun i => cs.length - i) 0 ⟨(.slice none 0 0), [], [], [], rfl, rfl, rfl, rfl, rfl, rfl, (Nat.zero_le _), (fun j hj => absurd hj (by omega)), (OS.nil 74 5), rfl, (by simp), (mid_no (by omega)).symm, H22⟩ ?_
   rintro i f23 w24 ⟨lv, E, F, ls, s0_25, s1_25, s2_25, s6_25, s10_25, s11_25, hi, hz, ho, hF, hln, hm, H25⟩
   refine c_seq ?_
   refine c_seq ?_
   refine c_reg ?_
   refine sy (v := I ((i : Nat) : Int)) (y_move s11_25) ?_
   refine sy (v := v0) (y_move s0_25) ?_
   refine sy (v := I ((cs.length : Nat) : Int)) (y_lenR Try.underlying38 (hC.st H25).rd rfl) ?_
   refine sy (v := .bool (decide (i < cs.length))) (n_lss (a := i) (b := cs.length) rfl rfl) ?_
   refine c_nil ?_
   refine n_then ?_
   refine c_if rfl (fun hc26 => ?_) (fun hc26 => ?_)
   ·
    refine wp_skip ?_
    refine n_then ?_
    refine c_seq ?_
    refine wp_block ?_
    refine c_seq ?_
    refine c_seq ?_
    refine c_reg ?_
    refine sy (v := v0) (y_move s0_25) ?_
    refine sy (v := I ((i : Nat) : Int)) (y_move s11_25) ?_
    refine sy (v := Ad (sp (v0)) (i * 3)) (y_ixR (m := i) Try.underlying38 sz48 (hC.st H25).rd (by decide) rfl rfl rfl (by omega)) ?_
    refine sy (v := Ad (sp (v0)) ((i * 3) + 0)) (y_fld Try.underlying48 rfl rfl sz3 (by decide) rfl) ?_
    refine sy (v := I ((cs.getD i c0).c.k)) (y_load sc3 rfl ((hC.st H25).rd.cell _ _ (flat3_get (i := i) (j := 0) (d := c0) (by omega) rfl))) ?_
    refine sy (v := I (kind)) (y_move s1_25) ?_
    refine sy (v := .bool (decide (((cs.getD i c0).c.k) = kind))) (y_eqlK (i := ((cs.getD i c0).c.k)) (j := kind) rfl rfl) ?_
    refine sy (v := .bool (decide (((cs.getD i c0).c.k) = kind))) (y_move rfl) ?_
    by_cases hp27 : ((cs.getD i c0).c.k) = kind
    ·
     refine gsy (v := v0) (gv_of (t := 42) rfl rfl rfl) (decide_eq_true hp27) (y_move s0_25) ?_
     refine gsy (v := I ((i : Nat) : Int)) (gv_of (t := 42) rfl rfl rfl) (decide_eq_true hp27) (y_move s11_25) ?_
     refine gsy (v := Ad (sp (v0)) (i * 3)) (gv_of (t := 42) rfl rfl rfl) (decide_eq_true hp27) (y_ixR (m := i) Try.underlying38 sz48 (hC.st H25).rd (by decide) rfl rfl rfl (by omega)) ?_
     refine gsy (v := Ad (sp (v0)) ((i * 3) + 1)) (gv_of (t := 42) rfl rfl rfl) (decide_eq_true hp27) (y_fld Try.underlying48 rfl rfl sz9 (by decide) rfl) ?_
     refine gsy (v := .string (bst ((cs.getD i c0).c.key))) (gv_of (t := 42) rfl rfl rfl) (decide_eq_true hp27) (y_load sc9 rfl ((hC.st H25).rd.cell _ _ (flat3_get (i := i) (j := 1) (d := c0) (by omega) rfl))) ?_
     refine gsy (v := .string (bst key)) (gv_of (t := 42) rfl rfl rfl) (decide_eq_true hp27) (y_move s2_25) ?_
     refine gsy (v := .bool (decide (((cs.getD i c0).c.key) = key))) (gv_of (t := 42) rfl rfl rfl) (decide_eq_true hp27) (y_eqlS (a := (cs.getD i c0).c.key) (b := key) rfl rfl) ?_
     refine sy (v := .bool (decide (((cs.getD i c0).c.key) = key))) (y_pickT rfl (decide_eq_true hp27) rfl) ?_
     refine c_nil ?_
     refine n_then ?_
     refine c_if rfl (fun hc28 => ?_) (fun hc28 => ?_)
     ·
      refine c_seq ?_
      refine c_reg ?_
      refine sy (v := v0) (y_move s0_25) ?_
      refine sy (v := I ((cs.length : Nat) : Int)) (y_lenR Try.underlying38 (hC.st H25).rd rfl) ?_
      refine sy (v := v0) (y_move s0_25) ?_
      refine sy (v := I ((i : Nat) : Int)) (y_move s11_25) ?_
      refine st (ow_call fn103 rfl (leafOf_c v0 cs i _ (hC.st H25).nil (by omega) hle) ⟨rfl, rfl, trivial⟩) ?_
      rintro _ w31 ⟨f29, E30, rfl, he33, hf34, H32⟩
      have H35 : St w _ [_, _, _, _, _] w31 := H25.app H32
      refine st (ow_buildSlice (pv := [(0, .agg ([I f29.n, I f29.cell.c.k, .string (bst f29.cell.c.key), f29.cell.v, f29.pv]).toArray)]) (us := [I (f29.n), I (f29.cell.c.k), .string (bst f29.cell.c.key), f29.cell.v, f29.pv]) Try.underlying39 sz74 zr74 H35 ⟨⟨rfl, rfl⟩, trivial⟩ (by decide) (by kernel_rfl)) ?_
      rintro _ w37 ⟨g36, rfl, H38⟩
      refine sy (v := .agg ([I ((cs.length : Nat) : Int), .slice (some (bs g36)) 1 1]).toArray) (y_build (pv := [(0, I ((cs.length : Nat) : Int)), (1, .slice (some (bs g36)) 1 1)]) (us := [I ((cs.length : Nat) : Int), .slice (some (bs g36)) 1 1]) ⟨⟨rfl, rfl⟩, ⟨rfl, rfl⟩, trivial⟩ (by kernel_rfl)) ?_
      have H39 : St w _ [_, _, _, _, _, _] w37 := H38.foc 5 rfl rfl
      refine s0 (ow_storeW (us := [I ((cs.length : Nat) : Int), .slice (some (bs g36)) 1 1]) H39 sz41 rfl s6_25 rfl (by simp [Value.oneCell']) (by simp [*])) ?_
      rintro _ w40 H41'
      have H41 : St w _ [[(g1, Rw 41 ([I ((cs.length : Nat) : Int), .slice (some (bs g36)) 1 1]))], _, _, _, _, _] w40 := H41'
      refine sy (v := I ((0 : Nat) : Int)) (y_assign (v := I ((0 : Nat) : Int)) rfl) ?_
      refine c_nil ?_
      refine n_then ?_
      refine wp_ret ?_
      refine r_then (r_block (r_then (r_then (r_block (r_then ?_)))))
      refine e_r2 Try.results46 (rv_b H41 (i := 0) rfl ag41 sz41 rfl s6_25) (rv_t rfl) ?_
      have H42 : St w _ [_, _, _, _, _, _] w40 := H41.foc 1 rfl rfl
      have H43 : St w _ [_, _, _, _, _, _] w40 := H42.foc 2 rfl rfl
      have H44 : St w _ [_, _] w40 := H43.take 2 rfl
      have : plcI kind key cs i = 0 := plc_zero.2 ⟨hp27, hc28⟩
      obtain ⟨H45, hd46⟩ := H44.join
      exact ⟨_, rfl, _, _, [f29], 0, _, rfl, .inr (.inr ⟨hkm, hwr, (List.length_map _).symm, rfl, i, isP_mk hi hz (fun _ => by omega), (by rw [at_hit (by omega) (by omega)]; show [f29.e] = _; rw [he33])⟩), ⟨_, _, rfl, (by rw [List.flatMap_singleton]; exact os_leaf), ⟨E30, [], (List.append_nil _).symm, hf34, rfl, by simp⟩, hd46, by simp⟩, H45⟩
     ·
      refine wp_skip ?_
      refine n_then ?_
      refine c_seq ?_
      refine drawS (.step 0 0 (.step 0 1 (.step 0 2 (.step 0 3 (.step 0 4 (.step 0 5 (.step 0 6 (.step 0 7 (.step 0 8 (.step 0 9 (.step 0 10 (.step 0 11 (.step 1 12 (.step 2 13 .nil)))))))))))))) mixed H25 (by kernel_rfl) (by kernel_rfl) (by kernel_rfl) ?_
      intro w47 H48
      refine pt (v := I (kind)) rfl (fun wS HS => y_move s1_25) ?_
      refine pt (v := .string (bst key)) rfl (fun wS HS => y_move s2_25) ?_
      refine pt (v := v0) rfl (fun wS HS => y_move s0_25) ?_
      refine pt (v := I ((i : Nat) : Int)) rfl (fun wS HS => y_move s11_25) ?_
      refine pt (v := Ad (sp (v0)) (i * 3)) rfl (fun wS HS => y_ixR (m := i) Try.underlying38 sz48 (hC.st HS).rd (by decide) rfl rfl rfl (by omega)) ?_
      refine pt (v := Ad (sp (v0)) ((i * 3) + 0)) rfl (fun wS HS => y_fld Try.underlying48 rfl rfl sz3 (by decide) rfl) ?_
      refine pt (v := I ((cs.getD i c0).c.k)) rfl (fun wS HS => y_load sc3 rfl ((hC.st HS).rd.cell _ _ (flat3_get (i := i) (j := 0) (d := c0) (by omega) rfl))) ?_
      refine pt (v := v0) rfl (fun wS HS => y_move s0_25) ?_
      refine pt (v := I ((i : Nat) : Int)) rfl (fun wS HS => y_move s11_25) ?_
      refine pt (v := Ad (sp (v0)) (i * 3)) rfl (fun wS HS => y_ixR (m := i) Try.underlying38 sz48 (hC.st HS).rd (by decide) rfl rfl rfl (by omega)) ?_
      refine pt (v := Ad (sp (v0)) ((i * 3) + 1)) rfl (fun wS HS => y_fld Try.underlying48 rfl rfl sz9 (by decide) rfl) ?_
      refine pt (v := .string (bst ((cs.getD i c0).c.key))) rfl (fun wS HS => y_load sc9 rfl ((hC.st HS).rd.cell _ _ (flat3_get (i := i) (j := 1) (d := c0) (by omega) rfl))) ?_
      refine pl rfl (ow_call fn84 rfl (ahead_c (kind) (key) ((cs.getD i c0).c.k) ((cs.getD i c0).c.key) _) ⟨rfl, rfl, rfl, rfl, trivial⟩) ?_
      rintro _ w49 ⟨rfl, hB50⟩
      have H51 : St w _ [_, _, _, _] w49 := H48.call hB50
      refine ⟨H51, ?_⟩
      refine tly (v := .bool (decide (ahead kind key ((cs.getD i c0).c.k) ((cs.getD i c0).c.key)))) rfl (y_assign rfl) ?_
      refine p_nil ?_
      refine n_then ?_
      refine c_seq ?_
      refine c_reg ?_
      refine sy (v := I ((i : Nat) : Int)) (y_move s11_25) ?_
      refine sy (v := I ((i + 1 : Nat) : Int)) (n_add (a := i) (b := 1) rfl rfl (by omega)) ?_
      refine sy (v := v0) (y_move s0_25) ?_
      refine sy (v := I ((cs.length : Nat) : Int)) (y_lenR Try.underlying38 (hC.st H51).rd rfl) ?_
      refine sy (v := .bool (decide ((i + 1) = cs.length))) (n_eql (a := i + 1) (b := cs.length) rfl rfl) ?_
      refine sy (v := .bool (decide ((i + 1) = cs.length))) (y_assign rfl) ?_
      refine c_nil ?_
      refine n_then ?_
      refine c_seq ?_
      refine c_reg ?_
      refine sy (v := .bool (false)) (y_assign (v := .bool (false)) rfl) ?_
      refine c_nil ?_
      refine n_then ?_
      refine c_seq ?_
      refine c_seq ?_
      refine c_reg ?_
      refine sy (v := .bool (decide ((i + 1) = cs.length))) (y_move rfl) ?_
      refine sy (v := .bool (decide (¬ ((i + 1) = cs.length)))) (y_notP rfl) ?_
      refine c_nil ?_
      refine n_then ?_
      refine c_if rfl (fun hc52 => ?_) (fun hc52 => ?_)
      ·
       refine drawS (.step 0 0 (.step 0 1 (.step 0 2 (.step 0 3 (.step 0 4 (.step 0 5 (.step 0 6 (.step 0 7 (.step 0 8 (.step 0 9 (.step 0 10 (.step 0 11 (.step 0 12 (.step 0 13 (.step 1 14 (.step 0 15 (.step 2 16 .nil))))))))))))))))) mixed H51 (by kernel_rfl) (by kernel_rfl) (by kernel_rfl) ?_
       intro w53 H54
       refine pt (v := v0) rfl (fun wS HS => y_move s0_25) ?_
       refine pt (v := I ((i : Nat) : Int)) rfl (fun wS HS => y_move s11_25) ?_
       refine pt (v := I ((i + 1 : Nat) : Int)) rfl (fun wS HS => n_add (a := i) (b := 1) rfl rfl (by omega)) ?_
       refine pt (v := Ad (sp (v0)) ((i + 1) * 3)) rfl (fun wS HS => y_ixR (m := i + 1) Try.underlying38 sz48 (hC.st HS).rd (by decide) rfl rfl rfl (by omega)) ?_
       refine pt (v := Ad (sp (v0)) (((i + 1) * 3) + 0)) rfl (fun wS HS => y_fld Try.underlying48 rfl rfl sz3 (by decide) rfl) ?_
       refine pt (v := I ((cs.getD (i + 1) c0).c.k)) rfl (fun wS HS => y_load sc3 rfl ((hC.st HS).rd.cell _ _ (flat3_get (i := i + 1) (j := 0) (d := c0) (by omega) rfl))) ?_
       refine pt (v := v0) rfl (fun wS HS => y_move s0_25) ?_
       refine pt (v := I ((i : Nat) : Int)) rfl (fun wS HS => y_move s11_25) ?_
       refine pt (v := I ((i + 1 : Nat) : Int)) rfl (fun wS HS => n_add (a := i) (b := 1) rfl rfl (by omega)) ?_
       refine pt (v := Ad (sp (v0)) ((i + 1) * 3)) rfl (fun wS HS => y_ixR (m := i + 1) Try.underlying38 sz48 (hC.st HS).rd (by decide) rfl rfl rfl (by omega)) ?_
       refine pt (v := Ad (sp (v0)) (((i + 1) * 3) + 1)) rfl (fun wS HS => y_fld Try.underlying48 rfl rfl sz9 (by decide) rfl) ?_
       refine pt (v := .string (bst ((cs.getD (i + 1) c0).c.key))) rfl (fun wS HS => y_load sc9 rfl ((hC.st HS).rd.cell _ _ (flat3_get (i := i + 1) (j := 1) (d := c0) (by omega) rfl))) ?_
       refine pt (v := I (kind)) rfl (fun wS HS => y_move s1_25) ?_
       refine pt (v := .string (bst key)) rfl (fun wS HS => y_move s2_25) ?_
       refine pl rfl (ow_call fn84 rfl (ahead_c ((cs.getD (i + 1) c0).c.k) ((cs.getD (i + 1) c0).c.key) (kind) (key) _) ⟨rfl, rfl, rfl, rfl, trivial⟩) ?_
       rintro _ w55 ⟨rfl, hB56⟩
       have H57 : St w _ [_, _, _, _] w55 := H54.call hB56
       refine ⟨H57, ?_⟩
       refine pt (v := .bool (decide (¬ (ahead ((cs.getD (i + 1) c0).c.k) ((cs.getD (i + 1) c0).c.key) kind key)))) rfl (fun wS HS => y_notP rfl) ?_
       refine tly (v := .bool (decide (¬ (ahead ((cs.getD (i + 1) c0).c.k) ((cs.getD (i + 1) c0).c.key) kind key)))) rfl (y_assign rfl) ?_
       refine p_nil ?_
       refine n_then ?_
       refine c_seq ?_
       refine c_seq ?_
       refine c_reg ?_
       refine sy (v := .bool (decide (ahead kind key ((cs.getD i c0).c.k) ((cs.getD i c0).c.key)))) (y_move rfl) ?_
       refine sy (v := .bool (decide (¬ (ahead kind key ((cs.getD i c0).c.k) ((cs.getD i c0).c.key))))) (y_notP rfl) ?_
       refine sy (v := .bool (decide (¬ (ahead kind key ((cs.getD i c0).c.k) ((cs.getD i c0).c.key))))) (y_move rfl) ?_
       by_cases hp58 : ¬ (ahead kind key ((cs.getD i c0).c.k) ((cs.getD i c0).c.key))
       ·
        refine gsy (v := .bool (decide ((i + 1) = cs.length))) (gv_of (t := 96) rfl rfl rfl) (decide_eq_true hp58) (y_move rfl) ?_
        refine gsy (v := .bool (decide ((i + 1) = cs.length))) (gv_of (t := 96) rfl rfl rfl) (decide_eq_true hp58) (y_move rfl) ?_
        refine gsy (v := .bool (decide (¬ (ahead ((cs.getD (i + 1) c0).c.k) ((cs.getD (i + 1) c0).c.key) kind key)))) (gv_of (t := 98) rfl rfl rfl) (decide_eq_false hc52) (y_move rfl) ?_
        refine gsy (v := .bool (decide (¬ (ahead ((cs.getD (i + 1) c0).c.k) ((cs.getD (i + 1) c0).c.key) kind key)))) (gv_of (t := 98) rfl rfl rfl) (decide_eq_false hc52) (y_move rfl) ?_
        by_cases hp59 : ¬ (ahead ((cs.getD (i + 1) c0).c.k) ((cs.getD (i + 1) c0).c.key) kind key)
        ·
         refine gsy (v := v0) (gv_of (t := 100) rfl rfl rfl) (decide_eq_true hp59) (y_move s0_25) ?_
         refine gsy (v := I ((i : Nat) : Int)) (gv_of (t := 100) rfl rfl rfl) (decide_eq_true hp59) (y_move s11_25) ?_
         refine gsy (v := I ((i + 1 : Nat) : Int)) (gv_of (t := 100) rfl rfl rfl) (decide_eq_true hp59) (n_add (a := i) (b := 1) rfl rfl (by omega)) ?_
         refine gsy (v := Ad (sp (v0)) ((i + 1) * 3)) (gv_of (t := 100) rfl rfl rfl) (decide_eq_true hp59) (y_ixR (m := i + 1) Try.underlying38 sz48 (hC.st H57).rd (by decide) rfl rfl rfl (by omega)) ?_
         refine gsy (v := Ad (sp (v0)) (((i + 1) * 3) + 0)) (gv_of (t := 100) rfl rfl rfl) (decide_eq_true hp59) (y_fld Try.underlying48 rfl rfl sz3 (by decide) rfl) ?_
         refine gsy (v := I ((cs.getD (i + 1) c0).c.k)) (gv_of (t := 100) rfl rfl rfl) (decide_eq_true hp59) (y_load sc3 rfl ((hC.st H57).rd.cell _ _ (flat3_get (i := i + 1) (j := 0) (d := c0) (by omega) rfl))) ?_
         refine gsy (v := I (kind)) (gv_of (t := 100) rfl rfl rfl) (decide_eq_true hp59) (y_move s1_25) ?_
         refine gsy (v := .bool (decide (((cs.getD (i + 1) c0).c.k) = kind))) (gv_of (t := 100) rfl rfl rfl) (decide_eq_true hp59) (y_eqlK (i := ((cs.getD (i + 1) c0).c.k)) (j := kind) rfl rfl) ?_
         refine gsy (v := .bool (decide (((cs.getD (i + 1) c0).c.k) = kind))) (gv_of (t := 100) rfl rfl rfl) (decide_eq_true hp59) (y_move rfl) ?_
         by_cases hp60 : ((cs.getD (i + 1) c0).c.k) = kind
         ·
          refine gsy (v := v0) (gv_of (t := 109) rfl rfl rfl) (decide_eq_true hp60) (y_move s0_25) ?_
          refine gsy (v := I ((i : Nat) : Int)) (gv_of (t := 109) rfl rfl rfl) (decide_eq_true hp60) (y_move s11_25) ?_
          refine gsy (v := I ((i + 1 : Nat) : Int)) (gv_of (t := 109) rfl rfl rfl) (decide_eq_true hp60) (n_add (a := i) (b := 1) rfl rfl (by omega)) ?_
          refine gsy (v := Ad (sp (v0)) ((i + 1) * 3)) (gv_of (t := 109) rfl rfl rfl) (decide_eq_true hp60) (y_ixR (m := i + 1) Try.underlying38 sz48 (hC.st H57).rd (by decide) rfl rfl rfl (by omega)) ?_
          refine gsy (v := Ad (sp (v0)) (((i + 1) * 3) + 1)) (gv_of (t := 109) rfl rfl rfl) (decide_eq_true hp60) (y_fld Try.underlying48 rfl rfl sz9 (by decide) rfl) ?_
          refine gsy (v := .string (bst ((cs.getD (i + 1) c0).c.key))) (gv_of (t := 109) rfl rfl rfl) (decide_eq_true hp60) (y_load sc9 rfl ((hC.st H57).rd.cell _ _ (flat3_get (i := i + 1) (j := 1) (d := c0) (by omega) rfl))) ?_
          refine gsy (v := .string (bst key)) (gv_of (t := 109) rfl rfl rfl) (decide_eq_true hp60) (y_move s2_25) ?_
          refine gsy (v := .bool (decide (((cs.getD (i + 1) c0).c.key) = key))) (gv_of (t := 109) rfl rfl rfl) (decide_eq_true hp60) (y_eqlS (a := (cs.getD (i + 1) c0).c.key) (b := key) rfl rfl) ?_
          refine gsy (v := .bool (decide (((cs.getD (i + 1) c0).c.key) = key))) (gv_of (t := 100) rfl rfl rfl) (decide_eq_true hp59) (y_pickT rfl (decide_eq_true hp60) rfl) ?_
          refine gsy (v := .bool (decide (¬ (((cs.getD (i + 1) c0).c.key) = key)))) (gv_of (t := 100) rfl rfl rfl) (decide_eq_true hp59) (y_notP rfl) ?_
          refine gsy (v := .bool (decide (¬ (((cs.getD (i + 1) c0).c.key) = key)))) (gv_of (t := 98) rfl rfl rfl) (decide_eq_false hc52) (y_pickT rfl (decide_eq_true hp59) rfl) ?_
          refine gsy (v := .bool (decide (¬ (((cs.getD (i + 1) c0).c.key) = key)))) (gv_of (t := 96) rfl rfl rfl) (decide_eq_true hp58) (y_pickF rfl (decide_eq_false hc52) rfl) ?_
          refine sy (v := .bool (decide (¬ (((cs.getD (i + 1) c0).c.key) = key)))) (y_pickT rfl (decide_eq_true hp58) rfl) ?_
          refine c_nil ?_
          refine n_then ?_
          refine c_if rfl (fun hc61 => ?_) (fun hc61 => ?_)
          ·
           refine drawSub (.step 0 0 (.step 0 1 (.step 0 2 (.step 0 3 (.step 1 4 (.step 1 5 (.step 1 6 (.step 2 7 (.step 2 8 .nil))))))))) mixed H57 (fun _ h => h.drop) (by kernel_rfl) (by kernel_rfl) (by kernel_rfl) ?_
           intro w62 H63
           refine pt (v := Ad (bs g16) (0 + 1)) rfl (fun wS HS => y_fld Try.underlying41 rfl rfl sz39 (by decide) s10_25) ?_
           refine pt (v := lv) rfl (fun wS HS => y_load sc39 rfl (HS.cell 1 rfl rfl)) ?_
           refine pt (v := v0) rfl (fun wS HS => y_move s0_25) ?_
           refine pt (v := I ((i : Nat) : Int)) rfl (fun wS HS => y_move s11_25) ?_
           refine pl rfl (ow_call fn103 rfl (leafOf_c v0 cs i _ (hC.st H63).nil (by omega) hle) ⟨rfl, rfl, trivial⟩) ?_
           rintro _ w66 ⟨f64, E65, rfl, he68, hf69, H67⟩
           have H70 : St w _ [_, _, _, _, _] w66 := H63.app H67
           have H71 : St w _ [_, _, _, _, _] w66 := H70.foc 4 rfl rfl
           have H72 : St w _ [_, _, _, _, _] w66 := H71.foc 4 rfl rfl
           have H73 : St w _ [_, _, _, _, _] w66 := H72.foc 4 rfl rfl
           have H74 : St w _ [_, _, _] w66 := H73.take 3 rfl
           refine ⟨H74, ?_⟩
           refine pl rfl (ow_buildSlice (pv := [(0, .agg ([I f64.n, I f64.cell.c.k, .string (bst f64.cell.c.key), f64.cell.v, f64.pv]).toArray)]) (us := [I (f64.n), I (f64.cell.c.k), .string (bst f64.cell.c.key), f64.cell.v, f64.pv]) Try.underlying39 sz74 zr74 H70 ⟨⟨rfl, rfl⟩, trivial⟩ (by decide) (by kernel_rfl)) ?_
           rintro _ w76 ⟨g75, rfl, H77⟩
           have H78 : St w _ [_, _, _, _, _, _] w76 := H77.foc 5 rfl rfl
           have H79 : St w _ [_, _, _, _, _, _] w76 := H78.foc 5 rfl rfl
           have H80 : St w _ [_, _, _, _, _, _] w76 := H79.foc 5 rfl rfl
           have H81 : St w _ [_, _, _] w76 := H80.take 3 rfl
           refine ⟨H81, ?_⟩
           have H87 : St w _ [_, _, _, _, _, _] w76 := H77.foc 2 rfl rfl
           refine pl rfl (ow_append (m := 1) (news := [I (f64.n), I (f64.cell.c.k), .string (bst f64.cell.c.key), f64.cell.v, f64.pv]) Try.underlying39 sz74 zr74 bt74 rfl ho H87 rfl rfl (((H87.rd (n := 1) (s := 5) (cap := 1) 1 rfl (by simp) ⟨Nat.le_refl _, by simp [maxLen]⟩).src Try.underlying39 (by intro u hu; simp only [List.mem_cons, List.not_mem_nil, or_false] at hu; rcases hu with rfl | rfl | rfl | rfl | rfl <;> first | rfl | exact Rd.one (LeafP.lr hf69 (H87.foc 2 rfl rfl)).cell.1 | exact Rd.one (LeafP.lr hf69 (H87.foc 2 rfl rfl)).rd))) (by omega) (by omega)) ?_
           rintro v83 w84 ⟨E82, ho86', H85⟩
           have ho86 : OS 74 5 v83 (ls ++ [f64]).length ((ls ++ [f64]).flatMap Lf.cs) E82 := by rw [flat5_snoc, List.length_append]; exact ho86'
           have H88 : St w _ [_, _, _, _, _, _] w84 := H85.foc 5 rfl rfl
           have H89 : St w _ [_, _, _, _, _, _] w84 := H88.foc 5 rfl rfl
           have H90 : St w _ [_, _, _, _, _, _] w84 := H89.foc 5 rfl rfl
           have H91 : St w _ [_, _, _] w84 := H90.take 3 rfl
           refine ⟨H91, ?_⟩
           refine tly (v := Ad (bs g16) (0 + 1)) rfl (y_fld Try.underlying41 rfl rfl sz39 (by decide) s10_25) ?_
           have H92 : St w _ [_, _, _, _, _, _] w84 := H85.foc 4 rfl rfl
           refine t0 rfl (ow_store (j := 1) H92 sz39 rfl rfl (Rd.one (ho86.rd H92 1 rfl)) rfl (by simp)) ?_
           rintro _ w93 H94'
           have H94 : St w _ [[(g16, Rw 41 ([I ((cs.length : Nat) : Int), v83]))], _, _, _, _, _] w93 := H94'
           refine p_nil ?_
           refine n_then ?_
           refine c_seq ?_
           refine c_reg ?_
           refine sy (v := .bool (decide (ahead kind key ((cs.getD i c0).c.k) ((cs.getD i c0).c.key)))) (y_move rfl) ?_
           refine c_nil ?_
           refine n_then ?_
           refine c_f rfl (decide_eq_false hp58) ?_
           refine wp_skip ?_
           refine n_block (n_then ?_)
           refine c_reg ?_
           refine sy (v := I ((i : Nat) : Int)) (y_move s11_25) ?_
           refine sy (v := I ((i + 1 : Nat) : Int)) (n_add (a := i) (b := 1) rfl rfl (by omega)) ?_
           refine sy (v := I ((i + 1 : Nat) : Int)) (y_assign rfl) ?_
           refine c_nil ?_
           have H95 : St w _ [_, _, _, _, _, _] w93 := H94.foc 5 rfl rfl
           have H96 : St w _ [_, _, _, _, _, _] w93 := H95.foc 3 rfl rfl
           have H97 : St w _ [_, _, _, _, _, _] w93 := H96.foc 3 rfl rfl
           have H98 : St w _ [_, _, _, _, _, _] w93 := H97.foc 3 rfl rfl
           have H99 : St w _ [_, _, _, _, _, _] w93 := H98.foc 5 rfl rfl
           have H100 : St w _ [_, _, _, _, _, _] w93 := H99.foc 5 rfl rfl
           obtain ⟨H101, hd102⟩ := H100.join
           have H103 : St w _ [_, _, _, _, _] w93 := H101.foc 4 rfl rfl
           have H104 : St w _ [_, _, _, _, _] w93 := H103.foc 2 rfl rfl
           have H105 : St w _ [_, _, _, _, _] w93 := H104.foc 2 rfl rfl
           have H106 : St w _ [_, _, _, _, _] w93 := H105.foc 3 rfl rfl
           have H107 : St w _ [_, _, _, _] w93 := H106.take 4 rfl
           have : ¬ 0 < plcI kind key cs i := fun hh => hp58 (plc_pos.1 hh)
           have : plcI kind key cs i ≠ 0 := fun hh => hc28 (plc_zero.1 hh).2
           have : ¬ plcI kind key cs (i + 1) < 0 := fun hh => hp59 (plc_neg.1 hh)
           have : plcI kind key cs (i + 1) ≠ 0 := fun hh => hc61 (plc_zero.1 hh).2
           have hlt : plcI kind key cs i < 0 := by omega
           have hls0 : ls = [] := by
            have h := hm
            rw [mid_no (by omega)] at h
            exact List.map_eq_nil_iff.1 h
           exact lp_next (i + 1) ⟨v83, E82, (F ++ E65), (ls ++ [f64]), s0_25, s1_25, s2_25, s6_25, s10_25, rfl, (by omega), (fun j hj => by
            by_cases e : j = i
            · rw [e]; exact hlt
            · exact hz j (by omega)), ho86, (LeafsP.snoc hf69 hF hd102), (by rw [hls0]; simp), (by rw [mid_yes (by omega), hls0]; show [f64.e] = _; rw [he68]; rfl), H107⟩ (by show _ < _; omega)
          ·
           refine wp_skip ?_
           refine n_then ?_
           refine c_seq ?_
           refine c_reg ?_
           refine sy (v := .bool (decide (ahead kind key ((cs.getD i c0).c.k) ((cs.getD i c0).c.key)))) (y_move rfl) ?_
           refine c_nil ?_
           refine n_then ?_
           refine c_f rfl (decide_eq_false hp58) ?_
           refine wp_skip ?_
           refine n_block (n_then ?_)
           refine c_reg ?_
           refine sy (v := I ((i : Nat) : Int)) (y_move s11_25) ?_
           refine sy (v := I ((i + 1 : Nat) : Int)) (n_add (a := i) (b := 1) rfl rfl (by omega)) ?_
           refine sy (v := I ((i + 1 : Nat) : Int)) (y_assign rfl) ?_
           refine c_nil ?_
           have : ¬ 0 < plcI kind key cs i := fun hh => hp58 (plc_pos.1 hh)
           have : plcI kind key cs i ≠ 0 := fun hh => hc28 (plc_zero.1 hh).2
           have : ¬ plcI kind key cs (i + 1) < 0 := fun hh => hp59 (plc_neg.1 hh)
           have : plcI kind key cs (i + 1) = 0 := plc_zero.2 ⟨hp60, (Classical.not_not.1 hc61)⟩
           have hlt : plcI kind key cs i < 0 := by omega
           have hls0 : ls = [] := by
            have h := hm
            rw [mid_no (by omega)] at h
            exact List.map_eq_nil_iff.1 h
           exact lp_next (i + 1) ⟨lv, E, F, ls, s0_25, s1_25, s2_25, s6_25, s10_25, rfl, (by omega), (fun j hj => by
            by_cases e : j = i
            · rw [e]; exact hlt
            · exact hz j (by omega)), ho, hF, (by omega), (by rw [mid_no (by omega), hls0]; rfl), H57⟩ (by show _ < _; omega)
         ·
          refine gno (gv_of (t := 109) rfl rfl rfl) (decide_eq_false hp60) ?_
          refine gno (gv_of (t := 109) rfl rfl rfl) (decide_eq_false hp60) ?_
          refine gno (gv_of (t := 109) rfl rfl rfl) (decide_eq_false hp60) ?_
          refine gno (gv_of (t := 109) rfl rfl rfl) (decide_eq_false hp60) ?_
          refine gno (gv_of (t := 109) rfl rfl rfl) (decide_eq_false hp60) ?_
          refine gno (gv_of (t := 109) rfl rfl rfl) (decide_eq_false hp60) ?_
          refine gno (gv_of (t := 109) rfl rfl rfl) (decide_eq_false hp60) ?_
          refine gno (gv_of (t := 109) rfl rfl rfl) (decide_eq_false hp60) ?_
          refine gsy (v := .bool (false)) (gv_of (t := 100) rfl rfl rfl) (decide_eq_true hp59) (y_pickF (v := .bool (false)) rfl (decide_eq_false hp60) rfl) ?_
          refine gsy (v := .bool (true)) (gv_of (t := 100) rfl rfl rfl) (decide_eq_true hp59) (y_not (p := false) rfl) ?_
          refine gsy (v := .bool (true)) (gv_of (t := 98) rfl rfl rfl) (decide_eq_false hc52) (y_pickT rfl (decide_eq_true hp59) rfl) ?_
          refine gsy (v := .bool (true)) (gv_of (t := 96) rfl rfl rfl) (decide_eq_true hp58) (y_pickF rfl (decide_eq_false hc52) rfl) ?_
          refine sy (v := .bool (true)) (y_pickT rfl (decide_eq_true hp58) rfl) ?_
          refine c_nil ?_
          refine n_then ?_
          refine c_t rfl rfl ?_
          refine drawSub (.step 0 0 (.step 0 1 (.step 0 2 (.step 0 3 (.step 1 4 (.step 1 5 (.step 1 6 (.step 2 7 (.step 2 8 .nil))))))))) mixed H57 (fun _ h => h.drop) (by kernel_rfl) (by kernel_rfl) (by kernel_rfl) ?_
          intro w108 H109
          refine pt (v := Ad (bs g16) (0 + 1)) rfl (fun wS HS => y_fld Try.underlying41 rfl rfl sz39 (by decide) s10_25) ?_
          refine pt (v := lv) rfl (fun wS HS => y_load sc39 rfl (HS.cell 1 rfl rfl)) ?_
          refine pt (v := v0) rfl (fun wS HS => y_move s0_25) ?_
          refine pt (v := I ((i : Nat) : Int)) rfl (fun wS HS => y_move s11_25) ?_
          refine pl rfl (ow_call fn103 rfl (leafOf_c v0 cs i _ (hC.st H109).nil (by omega) hle) ⟨rfl, rfl, trivial⟩) ?_
          rintro _ w112 ⟨f110, E111, rfl, he114, hf115, H113⟩
          have H116 : St w _ [_, _, _, _, _] w112 := H109.app H113
          have H117 : St w _ [_, _, _, _, _] w112 := H116.foc 4 rfl rfl
          have H118 : St w _ [_, _, _, _, _] w112 := H117.foc 4 rfl rfl
          have H119 : St w _ [_, _, _, _, _] w112 := H118.foc 4 rfl rfl
          have H120 : St w _ [_, _, _] w112 := H119.take 3 rfl
          refine ⟨H120, ?_⟩
          refine pl rfl (ow_buildSlice (pv := [(0, .agg ([I f110.n, I f110.cell.c.k, .string (bst f110.cell.c.key), f110.cell.v, f110.pv]).toArray)]) (us := [I (f110.n), I (f110.cell.c.k), .string (bst f110.cell.c.key), f110.cell.v, f110.pv]) Try.underlying39 sz74 zr74 H116 ⟨⟨rfl, rfl⟩, trivial⟩ (by decide) (by kernel_rfl)) ?_
          rintro _ w122 ⟨g121, rfl, H123⟩
          have H124 : St w _ [_, _, _, _, _, _] w122 := H123.foc 5 rfl rfl
          have H125 : St w _ [_, _, _, _, _, _] w122 := H124.foc 5 rfl rfl
          have H126 : St w _ [_, _, _, _, _, _] w122 := H125.foc 5 rfl rfl
          have H127 : St w _ [_, _, _] w122 := H126.take 3 rfl
          refine ⟨H127, ?_⟩
          have H133 : St w _ [_, _, _, _, _, _] w122 := H123.foc 2 rfl rfl
          refine pl rfl (ow_append (m := 1) (news := [I (f110.n), I (f110.cell.c.k), .string (bst f110.cell.c.key), f110.cell.v, f110.pv]) Try.underlying39 sz74 zr74 bt74 rfl ho H133 rfl rfl (((H133.rd (n := 1) (s := 5) (cap := 1) 1 rfl (by simp) ⟨Nat.le_refl _, by simp [maxLen]⟩).src Try.underlying39 (by intro u hu; simp only [List.mem_cons, List.not_mem_nil, or_false] at hu; rcases hu with rfl | rfl | rfl | rfl | rfl <;> first | rfl | exact Rd.one (LeafP.lr hf115 (H133.foc 2 rfl rfl)).cell.1 | exact Rd.one (LeafP.lr hf115 (H133.foc 2 rfl rfl)).rd))) (by omega) (by omega)) ?_
          rintro v129 w130 ⟨E128, ho132', H131⟩
          have ho132 : OS 74 5 v129 (ls ++ [f110]).length ((ls ++ [f110]).flatMap Lf.cs) E128 := by rw [flat5_snoc, List.length_append]; exact ho132'
          have H134 : St w _ [_, _, _, _, _, _] w130 := H131.foc 5 rfl rfl
          have H135 : St w _ [_, _, _, _, _, _] w130 := H134.foc 5 rfl rfl
          have H136 : St w _ [_, _, _, _, _, _] w130 := H135.foc 5 rfl rfl
          have H137 : St w _ [_, _, _] w130 := H136.take 3 rfl
          refine ⟨H137, ?_⟩
          refine tly (v := Ad (bs g16) (0 + 1)) rfl (y_fld Try.underlying41 rfl rfl sz39 (by decide) s10_25) ?_
          have H138 : St w _ [_, _, _, _, _, _] w130 := H131.foc 4 rfl rfl
          refine t0 rfl (ow_store (j := 1) H138 sz39 rfl rfl (Rd.one (ho132.rd H138 1 rfl)) rfl (by simp)) ?_
          rintro _ w139 H140'
          have H140 : St w _ [[(g16, Rw 41 ([I ((cs.length : Nat) : Int), v129]))], _, _, _, _, _] w139 := H140'
          refine p_nil ?_
          refine n_then ?_
          refine c_seq ?_
          refine c_reg ?_
          refine sy (v := .bool (decide (ahead kind key ((cs.getD i c0).c.k) ((cs.getD i c0).c.key)))) (y_move rfl) ?_
          refine c_nil ?_
          refine n_then ?_
          refine c_f rfl (decide_eq_false hp58) ?_
          refine wp_skip ?_
          refine n_block (n_then ?_)
          refine c_reg ?_
          refine sy (v := I ((i : Nat) : Int)) (y_move s11_25) ?_
          refine sy (v := I ((i + 1 : Nat) : Int)) (n_add (a := i) (b := 1) rfl rfl (by omega)) ?_
          refine sy (v := I ((i + 1 : Nat) : Int)) (y_assign rfl) ?_
          refine c_nil ?_
          have H141 : St w _ [_, _, _, _, _, _] w139 := H140.foc 5 rfl rfl
          have H142 : St w _ [_, _, _, _, _, _] w139 := H141.foc 3 rfl rfl
          have H143 : St w _ [_, _, _, _, _, _] w139 := H142.foc 3 rfl rfl
          have H144 : St w _ [_, _, _, _, _, _] w139 := H143.foc 3 rfl rfl
          have H145 : St w _ [_, _, _, _, _, _] w139 := H144.foc 5 rfl rfl
          have H146 : St w _ [_, _, _, _, _, _] w139 := H145.foc 5 rfl rfl
          obtain ⟨H147, hd148⟩ := H146.join
          have H149 : St w _ [_, _, _, _, _] w139 := H147.foc 4 rfl rfl
          have H150 : St w _ [_, _, _, _, _] w139 := H149.foc 2 rfl rfl
          have H151 : St w _ [_, _, _, _, _] w139 := H150.foc 2 rfl rfl
          have H152 : St w _ [_, _, _, _, _] w139 := H151.foc 3 rfl rfl
          have H153 : St w _ [_, _, _, _] w139 := H152.take 4 rfl
          have : ¬ 0 < plcI kind key cs i := fun hh => hp58 (plc_pos.1 hh)
          have : plcI kind key cs i ≠ 0 := fun hh => hc28 (plc_zero.1 hh).2
          have : ¬ plcI kind key cs (i + 1) < 0 := fun hh => hp59 (plc_neg.1 hh)
          have : plcI kind key cs (i + 1) ≠ 0 := fun hh => hp60 (plc_zero.1 hh).1
          have hlt : plcI kind key cs i < 0 := by omega
          have hls0 : ls = [] := by
           have h := hm
           rw [mid_no (by omega)] at h
           exact List.map_eq_nil_iff.1 h
          exact lp_next (i + 1) ⟨v129, E128, (F ++ E111), (ls ++ [f110]), s0_25, s1_25, s2_25, s6_25, s10_25, rfl, (by omega), (fun j hj => by
           by_cases e : j = i
           · rw [e]; exact hlt
           · exact hz j (by omega)), ho132, (LeafsP.snoc hf115 hF hd148), (by rw [hls0]; simp), (by rw [mid_yes (by omega), hls0]; show [f110.e] = _; rw [he114]; rfl), H153⟩ (by show _ < _; omega)
        ·
         refine gno (gv_of (t := 100) rfl rfl rfl) (decide_eq_false hp59) ?_
         refine gno (gv_of (t := 100) rfl rfl rfl) (decide_eq_false hp59) ?_
         refine gno (gv_of (t := 100) rfl rfl rfl) (decide_eq_false hp59) ?_
         refine gno (gv_of (t := 100) rfl rfl rfl) (decide_eq_false hp59) ?_
         refine gno (gv_of (t := 100) rfl rfl rfl) (decide_eq_false hp59) ?_
         refine gno (gv_of (t := 100) rfl rfl rfl) (decide_eq_false hp59) ?_
         refine gno (gv_of (t := 100) rfl rfl rfl) (decide_eq_false hp59) ?_
         refine gno (gv_of (t := 100) rfl rfl rfl) (decide_eq_false hp59) ?_
         refine gno (gv_of (t := 100) rfl rfl rfl) (decide_eq_false hp59) ?_
         refine gun (gv_of (t := 109) rfl rfl rfl) ?_
         refine gun (gv_of (t := 109) rfl rfl rfl) ?_
         refine gun (gv_of (t := 109) rfl rfl rfl) ?_
         refine gun (gv_of (t := 109) rfl rfl rfl) ?_
         refine gun (gv_of (t := 109) rfl rfl rfl) ?_
         refine gun (gv_of (t := 109) rfl rfl rfl) ?_
         refine gun (gv_of (t := 109) rfl rfl rfl) ?_
         refine gun (gv_of (t := 109) rfl rfl rfl) ?_
         refine gno (gv_of (t := 100) rfl rfl rfl) (decide_eq_false hp59) ?_
         refine gno (gv_of (t := 100) rfl rfl rfl) (decide_eq_false hp59) ?_
         refine gsy (v := .bool (false)) (gv_of (t := 98) rfl rfl rfl) (decide_eq_false hc52) (y_pickF (v := .bool (false)) rfl (decide_eq_false hp59) rfl) ?_
         refine gsy (v := .bool (false)) (gv_of (t := 96) rfl rfl rfl) (decide_eq_true hp58) (y_pickF rfl (decide_eq_false hc52) rfl) ?_
         refine sy (v := .bool (false)) (y_pickT rfl (decide_eq_true hp58) rfl) ?_
         refine c_nil ?_
         refine n_then ?_
         refine c_f rfl rfl ?_
         refine wp_skip ?_
         refine n_then ?_
         refine c_seq ?_
         refine c_reg ?_
         refine sy (v := .bool (decide (ahead kind key ((cs.getD i c0).c.k) ((cs.getD i c0).c.key)))) (y_move rfl) ?_
         refine c_nil ?_
         refine n_then ?_
         refine c_f rfl (decide_eq_false hp58) ?_
         refine wp_skip ?_
         refine n_block (n_then ?_)
         refine c_reg ?_
         refine sy (v := I ((i : Nat) : Int)) (y_move s11_25) ?_
         refine sy (v := I ((i + 1 : Nat) : Int)) (n_add (a := i) (b := 1) rfl rfl (by omega)) ?_
         refine sy (v := I ((i + 1 : Nat) : Int)) (y_assign rfl) ?_
         refine c_nil ?_
         have : ¬ 0 < plcI kind key cs i := fun hh => hp58 (plc_pos.1 hh)
         have : plcI kind key cs i ≠ 0 := fun hh => hc28 (plc_zero.1 hh).2
         have : plcI kind key cs (i + 1) < 0 := plc_neg.2 (Classical.not_not.1 hp59)
         have hlt : plcI kind key cs i < 0 := by omega
         have hls0 : ls = [] := by
          have h := hm
          rw [mid_no (by omega)] at h
          exact List.map_eq_nil_iff.1 h
         exact lp_next (i + 1) ⟨lv, E, F, ls, s0_25, s1_25, s2_25, s6_25, s10_25, rfl, (by omega), (fun j hj => by
          by_cases e : j = i
          · rw [e]; exact hlt
          · exact hz j (by omega)), ho, hF, (by omega), (by rw [mid_no (by omega), hls0]; rfl), H57⟩ (by show _ < _; omega)
       ·
        refine gno (gv_of (t := 96) rfl rfl rfl) (decide_eq_false hp58) ?_
        refine gno (gv_of (t := 96) rfl rfl rfl) (decide_eq_false hp58) ?_
        refine gun (gv_of (t := 98) rfl rfl rfl) ?_
        refine gun (gv_of (t := 98) rfl rfl rfl) ?_
        refine gun (gv_of (t := 100) rfl rfl rfl) ?_
        refine gun (gv_of (t := 100) rfl rfl rfl) ?_
        refine gun (gv_of (t := 100) rfl rfl rfl) ?_
        refine gun (gv_of (t := 100) rfl rfl rfl) ?_
        refine gun (gv_of (t := 100) rfl rfl rfl) ?_
        refine gun (gv_of (t := 100) rfl rfl rfl) ?_
        refine gun (gv_of (t := 100) rfl rfl rfl) ?_
        refine gun (gv_of (t := 100) rfl rfl rfl) ?_
        refine gun (gv_of (t := 100) rfl rfl rfl) ?_
        refine gun (gv_of (t := 109) rfl rfl rfl) ?_
        refine gun (gv_of (t := 109) rfl rfl rfl) ?_
        refine gun (gv_of (t := 109) rfl rfl rfl) ?_
        refine gun (gv_of (t := 109) rfl rfl rfl) ?_
        refine gun (gv_of (t := 109) rfl rfl rfl) ?_
        refine gun (gv_of (t := 109) rfl rfl rfl) ?_
        refine gun (gv_of (t := 109) rfl rfl rfl) ?_
        refine gun (gv_of (t := 109) rfl rfl rfl) ?_
        refine gun (gv_of (t := 100) rfl rfl rfl) ?_
        refine gun (gv_of (t := 100) rfl rfl rfl) ?_
        refine gun (gv_of (t := 98) rfl rfl rfl) ?_
        refine gno (gv_of (t := 96) rfl rfl rfl) (decide_eq_false hp58) ?_
        refine sy (v := .bool (false)) (y_pickF (v := .bool (false)) rfl (decide_eq_false hp58) rfl) ?_
        refine c_nil ?_
        refine n_then ?_
        refine c_f rfl rfl ?_
        refine wp_skip ?_
        refine n_then ?_
        refine c_seq ?_
        refine c_reg ?_
        refine sy (v := .bool (decide (ahead kind key ((cs.getD i c0).c.k) ((cs.getD i c0).c.key)))) (y_move rfl) ?_
        refine c_nil ?_
        refine n_then ?_
        refine c_t rfl (decide_eq_true (Classical.not_not.1 hp58)) ?_
        refine c_seq ?_
        refine drawSub (.step 0 0 (.step 0 1 (.step 0 2 (.step 0 3 (.step 1 4 (.step 1 5 (.step 1 6 (.step 2 7 (.step 2 8 .nil))))))))) mixed H57 (fun _ h => h.drop) (by kernel_rfl) (by kernel_rfl) (by kernel_rfl) ?_
        intro w154 H155
        refine pt (v := Ad (bs g16) (0 + 1)) rfl (fun wS HS => y_fld Try.underlying41 rfl rfl sz39 (by decide) s10_25) ?_
        refine pt (v := lv) rfl (fun wS HS => y_load sc39 rfl (HS.cell 1 rfl rfl)) ?_
        refine pt (v := v0) rfl (fun wS HS => y_move s0_25) ?_
        refine pt (v := I ((i : Nat) : Int)) rfl (fun wS HS => y_move s11_25) ?_
        refine pl rfl (ow_call fn103 rfl (leafOf_c v0 cs i _ (hC.st H155).nil (by omega) hle) ⟨rfl, rfl, trivial⟩) ?_
        rintro _ w158 ⟨f156, E157, rfl, he160, hf161, H159⟩
        have H162 : St w _ [_, _, _, _, _] w158 := H155.app H159
        have H163 : St w _ [_, _, _, _, _] w158 := H162.foc 4 rfl rfl
        have H164 : St w _ [_, _, _, _, _] w158 := H163.foc 4 rfl rfl
        have H165 : St w _ [_, _, _, _, _] w158 := H164.foc 4 rfl rfl
        have H166 : St w _ [_, _, _] w158 := H165.take 3 rfl
        refine ⟨H166, ?_⟩
        refine pl rfl (ow_buildSlice (pv := [(0, .agg ([I f156.n, I f156.cell.c.k, .string (bst f156.cell.c.key), f156.cell.v, f156.pv]).toArray)]) (us := [I (f156.n), I (f156.cell.c.k), .string (bst f156.cell.c.key), f156.cell.v, f156.pv]) Try.underlying39 sz74 zr74 H162 ⟨⟨rfl, rfl⟩, trivial⟩ (by decide) (by kernel_rfl)) ?_
        rintro _ w168 ⟨g167, rfl, H169⟩
        have H170 : St w _ [_, _, _, _, _, _] w168 := H169.foc 5 rfl rfl
        have H171 : St w _ [_, _, _, _, _, _] w168 := H170.foc 5 rfl rfl
        have H172 : St w _ [_, _, _, _, _, _] w168 := H171.foc 5 rfl rfl
        have H173 : St w _ [_, _, _] w168 := H172.take 3 rfl
        refine ⟨H173, ?_⟩
        have H179 : St w _ [_, _, _, _, _, _] w168 := H169.foc 2 rfl rfl
        refine pl rfl (ow_append (m := 1) (news := [I (f156.n), I (f156.cell.c.k), .string (bst f156.cell.c.key), f156.cell.v, f156.pv]) Try.underlying39 sz74 zr74 bt74 rfl ho H179 rfl rfl (((H179.rd (n := 1) (s := 5) (cap := 1) 1 rfl (by simp) ⟨Nat.le_refl _, by simp [maxLen]⟩).src Try.underlying39 (by intro u hu; simp only [List.mem_cons, List.not_mem_nil, or_false] at hu; rcases hu with rfl | rfl | rfl | rfl | rfl <;> first | rfl | exact Rd.one (LeafP.lr hf161 (H179.foc 2 rfl rfl)).cell.1 | exact Rd.one (LeafP.lr hf161 (H179.foc 2 rfl rfl)).rd))) (by omega) (by omega)) ?_
        rintro v175 w176 ⟨E174, ho178', H177⟩
        have ho178 : OS 74 5 v175 (ls ++ [f156]).length ((ls ++ [f156]).flatMap Lf.cs) E174 := by rw [flat5_snoc, List.length_append]; exact ho178'
        have H180 : St w _ [_, _, _, _, _, _] w176 := H177.foc 5 rfl rfl
        have H181 : St w _ [_, _, _, _, _, _] w176 := H180.foc 5 rfl rfl
        have H182 : St w _ [_, _, _, _, _, _] w176 := H181.foc 5 rfl rfl
        have H183 : St w _ [_, _, _] w176 := H182.take 3 rfl
        refine ⟨H183, ?_⟩
        refine tly (v := Ad (bs g16) (0 + 1)) rfl (y_fld Try.underlying41 rfl rfl sz39 (by decide) s10_25) ?_
        have H184 : St w _ [_, _, _, _, _, _] w176 := H177.foc 4 rfl rfl
        refine t0 rfl (ow_store (j := 1) H184 sz39 rfl rfl (Rd.one (ho178.rd H184 1 rfl)) rfl (by simp)) ?_
        rintro _ w185 H186'
        have H186 : St w _ [[(g16, Rw 41 ([I ((cs.length : Nat) : Int), v175]))], _, _, _, _, _] w185 := H186'
        refine p_nil ?_
        refine n_then ?_
        refine c_seq ?_
        refine c_reg ?_
        refine sy (v := .agg ([I ((cs.length : Nat) : Int), v175]).toArray) (y_loadA (us := [I ((cs.length : Nat) : Int), v175]) ag41 sz41 rfl s10_25 (fun j u hu => (H186.cell 0 rfl (by rw [Nat.zero_add]; exact hu)))) ?_
        have H187 : St w _ [_, _, _, _, _, _] w185 := H186.foc 5 rfl rfl
        refine s0 (ow_storeW (us := [I ((cs.length : Nat) : Int), v175]) H187 sz41 rfl s6_25 rfl (by intro u hu; simp only [List.mem_cons, List.not_mem_nil, or_false] at hu; rcases hu with rfl | rfl <;> first | rfl | exact Rd.one (ho178.rd H187 2 rfl)) (by simp [*])) ?_
        rintro _ w188 H189'
        have H189 : St w _ [[(g1, Rw 41 ([I ((cs.length : Nat) : Int), v175]))], _, _, _, _, _] w188 := H189'
        refine sy (v := I ((0 : Nat) : Int)) (y_assign (v := I ((0 : Nat) : Int)) rfl) ?_
        refine c_nil ?_
        refine n_then ?_
        refine wp_ret ?_
        refine r_block (r_then (r_then (r_block (r_then ?_))))
        refine e_r2 Try.results46 (rv_b H189 (i := 0) rfl ag41 sz41 rfl s6_25) (rv_t rfl) ?_
        have : 0 < plcI kind key cs i := plc_pos.2 (Classical.not_not.1 hp58)
        have : plcI kind key cs i ≠ 0 := fun hh => hc28 (plc_zero.1 hh).2
        have H190 : St w _ [_, _, _, _, _, _] w188 := H189.foc 3 rfl rfl
        have H191 : St w _ [_, _, _, _, _, _] w188 := H190.foc 3 rfl rfl
        have H192 : St w _ [_, _, _, _, _, _] w188 := H191.foc 3 rfl rfl
        have H193 : St w _ [_, _, _, _, _, _] w188 := H192.foc 3 rfl rfl
        have H194 : St w _ [_, _, _, _, _, _] w188 := H193.foc 5 rfl rfl
        have H195 : St w _ [_, _, _, _, _, _] w188 := H194.foc 5 rfl rfl
        obtain ⟨H196, hd197⟩ := H195.join
        have H198 : St w _ [_, _, _, _, _] w188 := H196.foc 3 rfl rfl
        have H199 : St w _ [_, _, _, _, _] w188 := H198.foc 1 rfl rfl
        have H200 : St w _ [_, _] w188 := H199.take 2 rfl
        obtain ⟨H201, hd202⟩ := H200.join
        exact ⟨_, rfl, _, _, (ls ++ [f156]), 0, _, rfl, .inr (.inr ⟨hkm, hwr, (List.length_map _).symm, rfl, i, isP_mk hi hz (fun _ => by omega), (by rw [at_pos (by omega) (by omega), ← hm, PE, PE, List.map_append]; show _ ++ [f156.e] = _; rw [he160])⟩), ⟨_, _, rfl, ho178, (LeafsP.snoc hf161 hF hd197), hd202, by rw [List.length_append, List.length_singleton]; omega⟩, H201⟩
      ·
       refine wp_skip ?_
       refine n_then ?_
       refine c_seq ?_
       refine c_seq ?_
       refine c_reg ?_
       refine sy (v := .bool (decide (ahead kind key ((cs.getD i c0).c.k) ((cs.getD i c0).c.key)))) (y_move rfl) ?_
       refine sy (v := .bool (decide (¬ (ahead kind key ((cs.getD i c0).c.k) ((cs.getD i c0).c.key))))) (y_notP rfl) ?_
       refine sy (v := .bool (decide (¬ (ahead kind key ((cs.getD i c0).c.k) ((cs.getD i c0).c.key))))) (y_move rfl) ?_
       by_cases hp203 : ¬ (ahead kind key ((cs.getD i c0).c.k) ((cs.getD i c0).c.key))
       ·
        refine gsy (v := .bool (decide ((i + 1) = cs.length))) (gv_of (t := 96) rfl rfl rfl) (decide_eq_true hp203) (y_move rfl) ?_
        refine gsy (v := .bool (decide ((i + 1) = cs.length))) (gv_of (t := 96) rfl rfl rfl) (decide_eq_true hp203) (y_move rfl) ?_
        refine gno (gv_of (t := 98) rfl rfl rfl) (decide_eq_true (Classical.not_not.1 hc52)) ?_
        refine gno (gv_of (t := 98) rfl rfl rfl) (decide_eq_true (Classical.not_not.1 hc52)) ?_
        refine gun (gv_of (t := 100) rfl rfl rfl) ?_
        refine gun (gv_of (t := 100) rfl rfl rfl) ?_
        refine gun (gv_of (t := 100) rfl rfl rfl) ?_
        refine gun (gv_of (t := 100) rfl rfl rfl) ?_
        refine gun (gv_of (t := 100) rfl rfl rfl) ?_
        refine gun (gv_of (t := 100) rfl rfl rfl) ?_
        refine gun (gv_of (t := 100) rfl rfl rfl) ?_
        refine gun (gv_of (t := 100) rfl rfl rfl) ?_
        refine gun (gv_of (t := 100) rfl rfl rfl) ?_
        refine gun (gv_of (t := 109) rfl rfl rfl) ?_
        refine gun (gv_of (t := 109) rfl rfl rfl) ?_
        refine gun (gv_of (t := 109) rfl rfl rfl) ?_
        refine gun (gv_of (t := 109) rfl rfl rfl) ?_
        refine gun (gv_of (t := 109) rfl rfl rfl) ?_
        refine gun (gv_of (t := 109) rfl rfl rfl) ?_
        refine gun (gv_of (t := 109) rfl rfl rfl) ?_
        refine gun (gv_of (t := 109) rfl rfl rfl) ?_
        refine gun (gv_of (t := 100) rfl rfl rfl) ?_
        refine gun (gv_of (t := 100) rfl rfl rfl) ?_
        refine gno (gv_of (t := 98) rfl rfl rfl) (decide_eq_true (Classical.not_not.1 hc52)) ?_
        refine gsy (v := .bool (true)) (gv_of (t := 96) rfl rfl rfl) (decide_eq_true hp203) (y_pickT (v := .bool (true)) rfl (decide_eq_true (Classical.not_not.1 hc52)) rfl) ?_
        refine sy (v := .bool (true)) (y_pickT rfl (decide_eq_true hp203) rfl) ?_
        refine c_nil ?_
        refine n_then ?_
        refine c_t rfl rfl ?_
        refine drawSub (.step 0 0 (.step 0 1 (.step 0 2 (.step 0 3 (.step 1 4 (.step 1 5 (.step 1 6 (.step 2 7 (.step 2 8 .nil))))))))) mixed H51 (fun _ h => h.drop) (by kernel_rfl) (by kernel_rfl) (by kernel_rfl) ?_
        intro w204 H205
        refine pt (v := Ad (bs g16) (0 + 1)) rfl (fun wS HS => y_fld Try.underlying41 rfl rfl sz39 (by decide) s10_25) ?_
        refine pt (v := lv) rfl (fun wS HS => y_load sc39 rfl (HS.cell 1 rfl rfl)) ?_
        refine pt (v := v0) rfl (fun wS HS => y_move s0_25) ?_
        refine pt (v := I ((i : Nat) : Int)) rfl (fun wS HS => y_move s11_25) ?_
        refine pl rfl (ow_call fn103 rfl (leafOf_c v0 cs i _ (hC.st H205).nil (by omega) hle) ⟨rfl, rfl, trivial⟩) ?_
        rintro _ w208 ⟨f206, E207, rfl, he210, hf211, H209⟩
        have H212 : St w _ [_, _, _, _, _] w208 := H205.app H209
        have H213 : St w _ [_, _, _, _, _] w208 := H212.foc 4 rfl rfl
        have H214 : St w _ [_, _, _, _, _] w208 := H213.foc 4 rfl rfl
        have H215 : St w _ [_, _, _, _, _] w208 := H214.foc 4 rfl rfl
        have H216 : St w _ [_, _, _] w208 := H215.take 3 rfl
        refine ⟨H216, ?_⟩
        refine pl rfl (ow_buildSlice (pv := [(0, .agg ([I f206.n, I f206.cell.c.k, .string (bst f206.cell.c.key), f206.cell.v, f206.pv]).toArray)]) (us := [I (f206.n), I (f206.cell.c.k), .string (bst f206.cell.c.key), f206.cell.v, f206.pv]) Try.underlying39 sz74 zr74 H212 ⟨⟨rfl, rfl⟩, trivial⟩ (by decide) (by kernel_rfl)) ?_
        rintro _ w218 ⟨g217, rfl, H219⟩
        have H220 : St w _ [_, _, _, _, _, _] w218 := H219.foc 5 rfl rfl
        have H221 : St w _ [_, _, _, _, _, _] w218 := H220.foc 5 rfl rfl
        have H222 : St w _ [_, _, _, _, _, _] w218 := H221.foc 5 rfl rfl
        have H223 : St w _ [_, _, _] w218 := H222.take 3 rfl
        refine ⟨H223, ?_⟩
        have H229 : St w _ [_, _, _, _, _, _] w218 := H219.foc 2 rfl rfl
        refine pl rfl (ow_append (m := 1) (news := [I (f206.n), I (f206.cell.c.k), .string (bst f206.cell.c.key), f206.cell.v, f206.pv]) Try.underlying39 sz74 zr74 bt74 rfl ho H229 rfl rfl (((H229.rd (n := 1) (s := 5) (cap := 1) 1 rfl (by simp) ⟨Nat.le_refl _, by simp [maxLen]⟩).src Try.underlying39 (by intro u hu; simp only [List.mem_cons, List.not_mem_nil, or_false] at hu; rcases hu with rfl | rfl | rfl | rfl | rfl <;> first | rfl | exact Rd.one (LeafP.lr hf211 (H229.foc 2 rfl rfl)).cell.1 | exact Rd.one (LeafP.lr hf211 (H229.foc 2 rfl rfl)).rd))) (by omega) (by omega)) ?_
        rintro v225 w226 ⟨E224, ho228', H227⟩
        have ho228 : OS 74 5 v225 (ls ++ [f206]).length ((ls ++ [f206]).flatMap Lf.cs) E224 := by rw [flat5_snoc, List.length_append]; exact ho228'
        have H230 : St w _ [_, _, _, _, _, _] w226 := H227.foc 5 rfl rfl
        have H231 : St w _ [_, _, _, _, _, _] w226 := H230.foc 5 rfl rfl
        have H232 : St w _ [_, _, _, _, _, _] w226 := H231.foc 5 rfl rfl
        have H233 : St w _ [_, _, _] w226 := H232.take 3 rfl
        refine ⟨H233, ?_⟩
        refine tly (v := Ad (bs g16) (0 + 1)) rfl (y_fld Try.underlying41 rfl rfl sz39 (by decide) s10_25) ?_
        have H234 : St w _ [_, _, _, _, _, _] w226 := H227.foc 4 rfl rfl
        refine t0 rfl (ow_store (j := 1) H234 sz39 rfl rfl (Rd.one (ho228.rd H234 1 rfl)) rfl (by simp)) ?_
        rintro _ w235 H236'
        have H236 : St w _ [[(g16, Rw 41 ([I ((cs.length : Nat) : Int), v225]))], _, _, _, _, _] w235 := H236'
        refine p_nil ?_
        refine n_then ?_
        refine c_seq ?_
        refine c_reg ?_
        refine sy (v := .bool (decide (ahead kind key ((cs.getD i c0).c.k) ((cs.getD i c0).c.key)))) (y_move rfl) ?_
        refine c_nil ?_
        refine n_then ?_
        refine c_f rfl (decide_eq_false hp203) ?_
        refine wp_skip ?_
        refine n_block (n_then ?_)
        refine c_reg ?_
        refine sy (v := I ((i : Nat) : Int)) (y_move s11_25) ?_
        refine sy (v := I ((i + 1 : Nat) : Int)) (n_add (a := i) (b := 1) rfl rfl (by omega)) ?_
        refine sy (v := I ((i + 1 : Nat) : Int)) (y_assign rfl) ?_
        refine c_nil ?_
        have H237 : St w _ [_, _, _, _, _, _] w235 := H236.foc 5 rfl rfl
        have H238 : St w _ [_, _, _, _, _, _] w235 := H237.foc 3 rfl rfl
        have H239 : St w _ [_, _, _, _, _, _] w235 := H238.foc 3 rfl rfl
        have H240 : St w _ [_, _, _, _, _, _] w235 := H239.foc 3 rfl rfl
        have H241 : St w _ [_, _, _, _, _, _] w235 := H240.foc 5 rfl rfl
        have H242 : St w _ [_, _, _, _, _, _] w235 := H241.foc 5 rfl rfl
        obtain ⟨H243, hd244⟩ := H242.join
        have H245 : St w _ [_, _, _, _, _] w235 := H243.foc 4 rfl rfl
        have H246 : St w _ [_, _, _, _, _] w235 := H245.foc 2 rfl rfl
        have H247 : St w _ [_, _, _, _, _] w235 := H246.foc 2 rfl rfl
        have H248 : St w _ [_, _, _, _, _] w235 := H247.foc 3 rfl rfl
        have H249 : St w _ [_, _, _, _] w235 := H248.take 4 rfl
        have : ¬ 0 < plcI kind key cs i := fun hh => hp203 (plc_pos.1 hh)
        have : plcI kind key cs i ≠ 0 := fun hh => hc28 (plc_zero.1 hh).2
        have hlt : plcI kind key cs i < 0 := by omega
        have hls0 : ls = [] := by
         have h := hm
         rw [mid_no (by omega)] at h
         exact List.map_eq_nil_iff.1 h
        exact lp_next (i + 1) ⟨v225, E224, (F ++ E207), (ls ++ [f206]), s0_25, s1_25, s2_25, s6_25, s10_25, rfl, (by omega), (fun j hj => by
         by_cases e : j = i
         · rw [e]; exact hlt
         · exact hz j (by omega)), ho228, (LeafsP.snoc hf211 hF hd244), (by rw [hls0]; simp), (by rw [mid_yes (by omega), hls0]; show [f206.e] = _; rw [he210]; rfl), H249⟩ (by show _ < _; omega)
       ·
        refine gno (gv_of (t := 96) rfl rfl rfl) (decide_eq_false hp203) ?_
        refine gno (gv_of (t := 96) rfl rfl rfl) (decide_eq_false hp203) ?_
        refine gun (gv_of (t := 98) rfl rfl rfl) ?_
        refine gun (gv_of (t := 98) rfl rfl rfl) ?_
        refine gun (gv_of (t := 100) rfl rfl rfl) ?_
        refine gun (gv_of (t := 100) rfl rfl rfl) ?_
        refine gun (gv_of (t := 100) rfl rfl rfl) ?_
        refine gun (gv_of (t := 100) rfl rfl rfl) ?_
        refine gun (gv_of (t := 100) rfl rfl rfl) ?_
        refine gun (gv_of (t := 100) rfl rfl rfl) ?_
        refine gun (gv_of (t := 100) rfl rfl rfl) ?_
        refine gun (gv_of (t := 100) rfl rfl rfl) ?_
        refine gun (gv_of (t := 100) rfl rfl rfl) ?_
        refine gun (gv_of (t := 109) rfl rfl rfl) ?_
        refine gun (gv_of (t := 109) rfl rfl rfl) ?_
        refine gun (gv_of (t := 109) rfl rfl rfl) ?_
        refine gun (gv_of (t := 109) rfl rfl rfl) ?_
        refine gun (gv_of (t := 109) rfl rfl rfl) ?_
        refine gun (gv_of (t := 109) rfl rfl rfl) ?_
        refine gun (gv_of (t := 109) rfl rfl rfl) ?_
        refine gun (gv_of (t := 109) rfl rfl rfl) ?_
        refine gun (gv_of (t := 100) rfl rfl rfl) ?_
        refine gun (gv_of (t := 100) rfl rfl rfl) ?_
        refine gun (gv_of (t := 98) rfl rfl rfl) ?_
        refine gno (gv_of (t := 96) rfl rfl rfl) (decide_eq_false hp203) ?_
        refine sy (v := .bool (false)) (y_pickF (v := .bool (false)) rfl (decide_eq_false hp203) rfl) ?_
        refine c_nil ?_
        refine n_then ?_
        refine c_f rfl rfl ?_
        refine wp_skip ?_
        refine n_then ?_
        refine c_seq ?_
        refine c_reg ?_
        refine sy (v := .bool (decide (ahead kind key ((cs.getD i c0).c.k) ((cs.getD i c0).c.key)))) (y_move rfl) ?_
        refine c_nil ?_
        refine n_then ?_
        refine c_t rfl (decide_eq_true (Classical.not_not.1 hp203)) ?_
        refine c_seq ?_
        refine drawSub (.step 0 0 (.step 0 1 (.step 0 2 (.step 0 3 (.step 1 4 (.step 1 5 (.step 1 6 (.step 2 7 (.step 2 8 .nil))))))))) mixed H51 (fun _ h => h.drop) (by kernel_rfl) (by kernel_rfl) (by kernel_rfl) ?_
        intro w250 H251
        refine pt (v := Ad (bs g16) (0 + 1)) rfl (fun wS HS => y_fld Try.underlying41 rfl rfl sz39 (by decide) s10_25) ?_
        refine pt (v := lv) rfl (fun wS HS => y_load sc39 rfl (HS.cell 1 rfl rfl)) ?_
        refine pt (v := v0) rfl (fun wS HS => y_move s0_25) ?_
        refine pt (v := I ((i : Nat) : Int)) rfl (fun wS HS => y_move s11_25) ?_
        refine pl rfl (ow_call fn103 rfl (leafOf_c v0 cs i _ (hC.st H251).nil (by omega) hle) ⟨rfl, rfl, trivial⟩) ?_
        rintro _ w254 ⟨f252, E253, rfl, he256, hf257, H255⟩
        have H258 : St w _ [_, _, _, _, _] w254 := H251.app H255
        have H259 : St w _ [_, _, _, _, _] w254 := H258.foc 4 rfl rfl
        have H260 : St w _ [_, _, _, _, _] w254 := H259.foc 4 rfl rfl
        have H261 : St w _ [_, _, _, _, _] w254 := H260.foc 4 rfl rfl
        have H262 : St w _ [_, _, _] w254 := H261.take 3 rfl
        refine ⟨H262, ?_⟩
        refine pl rfl (ow_buildSlice (pv := [(0, .agg ([I f252.n, I f252.cell.c.k, .string (bst f252.cell.c.key), f252.cell.v, f252.pv]).toArray)]) (us := [I (f252.n), I (f252.cell.c.k), .string (bst f252.cell.c.key), f252.cell.v, f252.pv]) Try.underlying39 sz74 zr74 H258 ⟨⟨rfl, rfl⟩, trivial⟩ (by decide) (by kernel_rfl)) ?_
        rintro _ w264 ⟨g263, rfl, H265⟩
        have H266 : St w _ [_, _, _, _, _, _] w264 := H265.foc 5 rfl rfl
        have H267 : St w _ [_, _, _, _, _, _] w264 := H266.foc 5 rfl rfl
        have H268 : St w _ [_, _, _, _, _, _] w264 := H267.foc 5 rfl rfl
        have H269 : St w _ [_, _, _] w264 := H268.take 3 rfl
        refine ⟨H269, ?_⟩
        have H275 : St w _ [_, _, _, _, _, _] w264 := H265.foc 2 rfl rfl
        refine pl rfl (ow_append (m := 1) (news := [I (f252.n), I (f252.cell.c.k), .string (bst f252.cell.c.key), f252.cell.v, f252.pv]) Try.underlying39 sz74 zr74 bt74 rfl ho H275 rfl rfl (((H275.rd (n := 1) (s := 5) (cap := 1) 1 rfl (by simp) ⟨Nat.le_refl _, by simp [maxLen]⟩).src Try.underlying39 (by intro u hu; simp only [List.mem_cons, List.not_mem_nil, or_false] at hu; rcases hu with rfl | rfl | rfl | rfl | rfl <;> first | rfl | exact Rd.one (LeafP.lr hf257 (H275.foc 2 rfl rfl)).cell.1 | exact Rd.one (LeafP.lr hf257 (H275.foc 2 rfl rfl)).rd))) (by omega) (by omega)) ?_
        rintro v271 w272 ⟨E270, ho274', H273⟩
        have ho274 : OS 74 5 v271 (ls ++ [f252]).length ((ls ++ [f252]).flatMap Lf.cs) E270 := by rw [flat5_snoc, List.length_append]; exact ho274'
        have H276 : St w _ [_, _, _, _, _, _] w272 := H273.foc 5 rfl rfl
        have H277 : St w _ [_, _, _, _, _, _] w272 := H276.foc 5 rfl rfl
        have H278 : St w _ [_, _, _, _, _, _] w272 := H277.foc 5 rfl rfl
        have H279 : St w _ [_, _, _] w272 := H278.take 3 rfl
        refine ⟨H279, ?_⟩
        refine tly (v := Ad (bs g16) (0 + 1)) rfl (y_fld Try.underlying41 rfl rfl sz39 (by decide) s10_25) ?_
        have H280 : St w _ [_, _, _, _, _, _] w272 := H273.foc 4 rfl rfl
        refine t0 rfl (ow_store (j := 1) H280 sz39 rfl rfl (Rd.one (ho274.rd H280 1 rfl)) rfl (by simp)) ?_
        rintro _ w281 H282'
        have H282 : St w _ [[(g16, Rw 41 ([I ((cs.length : Nat) : Int), v271]))], _, _, _, _, _] w281 := H282'
        refine p_nil ?_
        refine n_then ?_
        refine c_seq ?_
        refine c_reg ?_
        refine sy (v := .agg ([I ((cs.length : Nat) : Int), v271]).toArray) (y_loadA (us := [I ((cs.length : Nat) : Int), v271]) ag41 sz41 rfl s10_25 (fun j u hu => (H282.cell 0 rfl (by rw [Nat.zero_add]; exact hu)))) ?_
        have H283 : St w _ [_, _, _, _, _, _] w281 := H282.foc 5 rfl rfl
        refine s0 (ow_storeW (us := [I ((cs.length : Nat) : Int), v271]) H283 sz41 rfl s6_25 rfl (by intro u hu; simp only [List.mem_cons, List.not_mem_nil, or_false] at hu; rcases hu with rfl | rfl <;> first | rfl | exact Rd.one (ho274.rd H283 2 rfl)) (by simp [*])) ?_
        rintro _ w284 H285'
        have H285 : St w _ [[(g1, Rw 41 ([I ((cs.length : Nat) : Int), v271]))], _, _, _, _, _] w284 := H285'
        refine sy (v := I ((0 : Nat) : Int)) (y_assign (v := I ((0 : Nat) : Int)) rfl) ?_
        refine c_nil ?_
        refine n_then ?_
        refine wp_ret ?_
        refine r_block (r_then (r_then (r_block (r_then ?_))))
        refine e_r2 Try.results46 (rv_b H285 (i := 0) rfl ag41 sz41 rfl s6_25) (rv_t rfl) ?_
        have : 0 < plcI kind key cs i := plc_pos.2 (Classical.not_not.1 hp203)
        have : plcI kind key cs i ≠ 0 := fun hh => hc28 (plc_zero.1 hh).2
        have H286 : St w _ [_, _, _, _, _, _] w284 := H285.foc 3 rfl rfl
        have H287 : St w _ [_, _, _, _, _, _] w284 := H286.foc 3 rfl rfl
        have H288 : St w _ [_, _, _, _, _, _] w284 := H287.foc 3 rfl rfl
        have H289 : St w _ [_, _, _, _, _, _] w284 := H288.foc 3 rfl rfl
        have H290 : St w _ [_, _, _, _, _, _] w284 := H289.foc 5 rfl rfl
        have H291 : St w _ [_, _, _, _, _, _] w284 := H290.foc 5 rfl rfl
        obtain ⟨H292, hd293⟩ := H291.join
        have H294 : St w _ [_, _, _, _, _] w284 := H292.foc 3 rfl rfl
        have H295 : St w _ [_, _, _, _, _] w284 := H294.foc 1 rfl rfl
        have H296 : St w _ [_, _] w284 := H295.take 2 rfl
        obtain ⟨H297, hd298⟩ := H296.join
        exact ⟨_, rfl, _, _, (ls ++ [f252]), 0, _, rfl, .inr (.inr ⟨hkm, hwr, (List.length_map _).symm, rfl, i, isP_mk hi hz (fun _ => by omega), (by rw [at_pos (by omega) (by omega), ← hm, PE, PE, List.map_append]; show _ ++ [f252.e] = _; rw [he256])⟩), ⟨_, _, rfl, ho274, (LeafsP.snoc hf257 hF hd293), hd298, by rw [List.length_append, List.length_singleton]; omega⟩, H297⟩
    ·
     refine gno (gv_of (t := 42) rfl rfl rfl) (decide_eq_false hp27) ?_
     refine gno (gv_of (t := 42) rfl rfl rfl) (decide_eq_false hp27) ?_
     refine gno (gv_of (t := 42) rfl rfl rfl) (decide_eq_false hp27) ?_
     refine gno (gv_of (t := 42) rfl rfl rfl) (decide_eq_false hp27) ?_
     refine gno (gv_of (t := 42) rfl rfl rfl) (decide_eq_false hp27) ?_
     refine gno (gv_of (t := 42) rfl rfl rfl) (decide_eq_false hp27) ?_
     refine gno (gv_of (t := 42) rfl rfl rfl) (decide_eq_false hp27) ?_
     refine sy (v := .bool (false)) (y_pickF (v := .bool (false)) rfl (decide_eq_false hp27) rfl) ?_
     refine c_nil ?_
     refine n_then ?_
     refine c_f rfl rfl ?_
     refine wp_skip ?_
     refine n_then ?_
     refine c_seq ?_
     refine drawS (.step 0 0 (.step 0 1 (.step 0 2 (.step 0 3 (.step 0 4 (.step 0 5 (.step 0 6 (.step 0 7 (.step 0 8 (.step 0 9 (.step 0 10 (.step 0 11 (.step 1 12 (.step 2 13 .nil)))))))))))))) mixed H25 (by kernel_rfl) (by kernel_rfl) (by kernel_rfl) ?_
     intro w299 H300
     refine pt (v := I (kind)) rfl (fun wS HS => y_move s1_25) ?_
     refine pt (v := .string (bst key)) rfl (fun wS HS => y_move s2_25) ?_
     refine pt (v := v0) rfl (fun wS HS => y_move s0_25) ?_
     refine pt (v := I ((i : Nat) : Int)) rfl (fun wS HS => y_move s11_25) ?_
     refine pt (v := Ad (sp (v0)) (i * 3)) rfl (fun wS HS => y_ixR (m := i) Try.underlying38 sz48 (hC.st HS).rd (by decide) rfl rfl rfl (by omega)) ?_
     refine pt (v := Ad (sp (v0)) ((i * 3) + 0)) rfl (fun wS HS => y_fld Try.underlying48 rfl rfl sz3 (by decide) rfl) ?_
     refine pt (v := I ((cs.getD i c0).c.k)) rfl (fun wS HS => y_load sc3 rfl ((hC.st HS).rd.cell _ _ (flat3_get (i := i) (j := 0) (d := c0) (by omega) rfl))) ?_
     refine pt (v := v0) rfl (fun wS HS => y_move s0_25) ?_
     refine pt (v := I ((i : Nat) : Int)) rfl (fun wS HS => y_move s11_25) ?_
     refine pt (v := Ad (sp (v0)) (i * 3)) rfl (fun wS HS => y_ixR (m := i) Try.underlying38 sz48 (hC.st HS).rd (by decide) rfl rfl rfl (by omega)) ?_
     refine pt (v := Ad (sp (v0)) ((i * 3) + 1)) rfl (fun wS HS => y_fld Try.underlying48 rfl rfl sz9 (by decide) rfl) ?_
     refine pt (v := .string (bst ((cs.getD i c0).c.key))) rfl (fun wS HS => y_load sc9 rfl ((hC.st HS).rd.cell _ _ (flat3_get (i := i) (j := 1) (d := c0) (by omega) rfl))) ?_
     refine pl rfl (ow_call fn84 rfl (ahead_c (kind) (key) ((cs.getD i c0).c.k) ((cs.getD i c0).c.key) _) ⟨rfl, rfl, rfl, rfl, trivial⟩) ?_
     rintro _ w301 ⟨rfl, hB302⟩
     have H303 : St w _ [_, _, _, _] w301 := H300.call hB302
     refine ⟨H303, ?_⟩
     refine tly (v := .bool (decide (ahead kind key ((cs.getD i c0).c.k) ((cs.getD i c0).c.key)))) rfl (y_assign rfl) ?_
     refine p_nil ?_
     refine n_then ?_
     refine c_seq ?_
     refine c_reg ?_
     refine sy (v := I ((i : Nat) : Int)) (y_move s11_25) ?_
     refine sy (v := I ((i + 1 : Nat) : Int)) (n_add (a := i) (b := 1) rfl rfl (by omega)) ?_
     refine sy (v := v0) (y_move s0_25) ?_
     refine sy (v := I ((cs.length : Nat) : Int)) (y_lenR Try.underlying38 (hC.st H303).rd rfl) ?_
     refine sy (v := .bool (decide ((i + 1) = cs.length))) (n_eql (a := i + 1) (b := cs.length) rfl rfl) ?_
     refine sy (v := .bool (decide ((i + 1) = cs.length))) (y_assign rfl) ?_
     refine c_nil ?_
     refine n_then ?_
     refine c_seq ?_
     refine c_reg ?_
     refine sy (v := .bool (false)) (y_assign (v := .bool (false)) rfl) ?_
     refine c_nil ?_
     refine n_then ?_
     refine c_seq ?_
     refine c_seq ?_
     refine c_reg ?_
     refine sy (v := .bool (decide ((i + 1) = cs.length))) (y_move rfl) ?_
     refine sy (v := .bool (decide (¬ ((i + 1) = cs.length)))) (y_notP rfl) ?_
     refine c_nil ?_
     refine n_then ?_
     refine c_if rfl (fun hc304 => ?_) (fun hc304 => ?_)
     ·
      refine drawS (.step 0 0 (.step 0 1 (.step 0 2 (.step 0 3 (.step 0 4 (.step 0 5 (.step 0 6 (.step 0 7 (.step 0 8 (.step 0 9 (.step 0 10 (.step 0 11 (.step 0 12 (.step 0 13 (.step 1 14 (.step 0 15 (.step 2 16 .nil))))))))))))))))) mixed H303 (by kernel_rfl) (by kernel_rfl) (by kernel_rfl) ?_
      intro w305 H306
      refine pt (v := v0) rfl (fun wS HS => y_move s0_25) ?_
      refine pt (v := I ((i : Nat) : Int)) rfl (fun wS HS => y_move s11_25) ?_
      refine pt (v := I ((i + 1 : Nat) : Int)) rfl (fun wS HS => n_add (a := i) (b := 1) rfl rfl (by omega)) ?_
      refine pt (v := Ad (sp (v0)) ((i + 1) * 3)) rfl (fun wS HS => y_ixR (m := i + 1) Try.underlying38 sz48 (hC.st HS).rd (by decide) rfl rfl rfl (by omega)) ?_
      refine pt (v := Ad (sp (v0)) (((i + 1) * 3) + 0)) rfl (fun wS HS => y_fld Try.underlying48 rfl rfl sz3 (by decide) rfl) ?_
      refine pt (v := I ((cs.getD (i + 1) c0).c.k)) rfl (fun wS HS => y_load sc3 rfl ((hC.st HS).rd.cell _ _ (flat3_get (i := i + 1) (j := 0) (d := c0) (by omega) rfl))) ?_
      refine pt (v := v0) rfl (fun wS HS => y_move s0_25) ?_
      refine pt (v := I ((i : Nat) : Int)) rfl (fun wS HS => y_move s11_25) ?_
      refine pt (v := I ((i + 1 : Nat) : Int)) rfl (fun wS HS => n_add (a := i) (b := 1) rfl rfl (by omega)) ?_
      refine pt (v := Ad (sp (v0)) ((i + 1) * 3)) rfl (fun wS HS => y_ixR (m := i + 1) Try.underlying38 sz48 (hC.st HS).rd (by decide) rfl rfl rfl (by omega)) ?_
      refine pt (v := Ad (sp (v0)) (((i + 1) * 3) + 1)) rfl (fun wS HS => y_fld Try.underlying48 rfl rfl sz9 (by decide) rfl) ?_
      refine pt (v := .string (bst ((cs.getD (i + 1) c0).c.key))) rfl (fun wS HS => y_load sc9 rfl ((hC.st HS).rd.cell _ _ (flat3_get (i := i + 1) (j := 1) (d := c0) (by omega) rfl))) ?_
      refine pt (v := I (kind)) rfl (fun wS HS => y_move s1_25) ?_
      refine pt (v := .string (bst key)) rfl (fun wS HS => y_move s2_25) ?_
      refine pl rfl (ow_call fn84 rfl (ahead_c ((cs.getD (i + 1) c0).c.k) ((cs.getD (i + 1) c0).c.key) (kind) (key) _) ⟨rfl, rfl, rfl, rfl, trivial⟩) ?_
      rintro _ w307 ⟨rfl, hB308⟩
      have H309 : St w _ [_, _, _, _] w307 := H306.call hB308
      refine ⟨H309, ?_⟩
      refine pt (v := .bool (decide (¬ (ahead ((cs.getD (i + 1) c0).c.k) ((cs.getD (i + 1) c0).c.key) kind key)))) rfl (fun wS HS => y_notP rfl) ?_
      refine tly (v := .bool (decide (¬ (ahead ((cs.getD (i + 1) c0).c.k) ((cs.getD (i + 1) c0).c.key) kind key)))) rfl (y_assign rfl) ?_
      refine p_nil ?_
      refine n_then ?_
      refine c_seq ?_
      refine c_seq ?_
      refine c_reg ?_
      refine sy (v := .bool (decide (ahead kind key ((cs.getD i c0).c.k) ((cs.getD i c0).c.key)))) (y_move rfl) ?_
      refine sy (v := .bool (decide (¬ (ahead kind key ((cs.getD i c0).c.k) ((cs.getD i c0).c.key))))) (y_notP rfl) ?_
      refine sy (v := .bool (decide (¬ (ahead kind key ((cs.getD i c0).c.k) ((cs.getD i c0).c.key))))) (y_move rfl) ?_
      by_cases hp310 : ¬ (ahead kind key ((cs.getD i c0).c.k) ((cs.getD i c0).c.key))
      ·
       refine gsy (v := .bool (decide ((i + 1) = cs.length))) (gv_of (t := 96) rfl rfl rfl) (decide_eq_true hp310) (y_move rfl) ?_
       refine gsy (v := .bool (decide ((i + 1) = cs.length))) (gv_of (t := 96) rfl rfl rfl) (decide_eq_true hp310) (y_move rfl) ?_
       refine gsy (v := .bool (decide (¬ (ahead ((cs.getD (i + 1) c0).c.k) ((cs.getD (i + 1) c0).c.key) kind key)))) (gv_of (t := 98) rfl rfl rfl) (decide_eq_false hc304) (y_move rfl) ?_
       refine gsy (v := .bool (decide (¬ (ahead ((cs.getD (i + 1) c0).c.k) ((cs.getD (i + 1) c0).c.key) kind key)))) (gv_of (t := 98) rfl rfl rfl) (decide_eq_false hc304) (y_move rfl) ?_
       by_cases hp311 : ¬ (ahead ((cs.getD (i + 1) c0).c.k) ((cs.getD (i + 1) c0).c.key) kind key)
       ·
        refine gsy (v := v0) (gv_of (t := 100) rfl rfl rfl) (decide_eq_true hp311) (y_move s0_25) ?_
        refine gsy (v := I ((i : Nat) : Int)) (gv_of (t := 100) rfl rfl rfl) (decide_eq_true hp311) (y_move s11_25) ?_
        refine gsy (v := I ((i + 1 : Nat) : Int)) (gv_of (t := 100) rfl rfl rfl) (decide_eq_true hp311) (n_add (a := i) (b := 1) rfl rfl (by omega)) ?_
        refine gsy (v := Ad (sp (v0)) ((i + 1) * 3)) (gv_of (t := 100) rfl rfl rfl) (decide_eq_true hp311) (y_ixR (m := i + 1) Try.underlying38 sz48 (hC.st H309).rd (by decide) rfl rfl rfl (by omega)) ?_
        refine gsy (v := Ad (sp (v0)) (((i + 1) * 3) + 0)) (gv_of (t := 100) rfl rfl rfl) (decide_eq_true hp311) (y_fld Try.underlying48 rfl rfl sz3 (by decide) rfl) ?_
        refine gsy (v := I ((cs.getD (i + 1) c0).c.k)) (gv_of (t := 100) rfl rfl rfl) (decide_eq_true hp311) (y_load sc3 rfl ((hC.st H309).rd.cell _ _ (flat3_get (i := i + 1) (j := 0) (d := c0) (by omega) rfl))) ?_
        refine gsy (v := I (kind)) (gv_of (t := 100) rfl rfl rfl) (decide_eq_true hp311) (y_move s1_25) ?_
        refine gsy (v := .bool (decide (((cs.getD (i + 1) c0).c.k) = kind))) (gv_of (t := 100) rfl rfl rfl) (decide_eq_true hp311) (y_eqlK (i := ((cs.getD (i + 1) c0).c.k)) (j := kind) rfl rfl) ?_
        refine gsy (v := .bool (decide (((cs.getD (i + 1) c0).c.k) = kind))) (gv_of (t := 100) rfl rfl rfl) (decide_eq_true hp311) (y_move rfl) ?_
        by_cases hp312 : ((cs.getD (i + 1) c0).c.k) = kind
        ·
         refine gsy (v := v0) (gv_of (t := 109) rfl rfl rfl) (decide_eq_true hp312) (y_move s0_25) ?_
         refine gsy (v := I ((i : Nat) : Int)) (gv_of (t := 109) rfl rfl rfl) (decide_eq_true hp312) (y_move s11_25) ?_
         refine gsy (v := I ((i + 1 : Nat) : Int)) (gv_of (t := 109) rfl rfl rfl) (decide_eq_true hp312) (n_add (a := i) (b := 1) rfl rfl (by omega)) ?_
         refine gsy (v := Ad (sp (v0)) ((i + 1) * 3)) (gv_of (t := 109) rfl rfl rfl) (decide_eq_true hp312) (y_ixR (m := i + 1) Try.underlying38 sz48 (hC.st H309).rd (by decide) rfl rfl rfl (by omega)) ?_
         refine gsy (v := Ad (sp (v0)) (((i + 1) * 3) + 1)) (gv_of (t := 109) rfl rfl rfl) (decide_eq_true hp312) (y_fld Try.underlying48 rfl rfl sz9 (by decide) rfl) ?_
         refine gsy (v := .string (bst ((cs.getD (i + 1) c0).c.key))) (gv_of (t := 109) rfl rfl rfl) (decide_eq_true hp312) (y_load sc9 rfl ((hC.st H309).rd.cell _ _ (flat3_get (i := i + 1) (j := 1) (d := c0) (by omega) rfl))) ?_
         refine gsy (v := .string (bst key)) (gv_of (t := 109) rfl rfl rfl) (decide_eq_true hp312) (y_move s2_25) ?_
         refine gsy (v := .bool (decide (((cs.getD (i + 1) c0).c.key) = key))) (gv_of (t := 109) rfl rfl rfl) (decide_eq_true hp312) (y_eqlS (a := (cs.getD (i + 1) c0).c.key) (b := key) rfl rfl) ?_
         refine gsy (v := .bool (decide (((cs.getD (i + 1) c0).c.key) = key))) (gv_of (t := 100) rfl rfl rfl) (decide_eq_true hp311) (y_pickT rfl (decide_eq_true hp312) rfl) ?_
         refine gsy (v := .bool (decide (¬ (((cs.getD (i + 1) c0).c.key) = key)))) (gv_of (t := 100) rfl rfl rfl) (decide_eq_true hp311) (y_notP rfl) ?_
         refine gsy (v := .bool (decide (¬ (((cs.getD (i + 1) c0).c.key) = key)))) (gv_of (t := 98) rfl rfl rfl) (decide_eq_false hc304) (y_pickT rfl (decide_eq_true hp311) rfl) ?_
         refine gsy (v := .bool (decide (¬ (((cs.getD (i + 1) c0).c.key) = key)))) (gv_of (t := 96) rfl rfl rfl) (decide_eq_true hp310) (y_pickF rfl (decide_eq_false hc304) rfl) ?_
         refine sy (v := .bool (decide (¬ (((cs.getD (i + 1) c0).c.key) = key)))) (y_pickT rfl (decide_eq_true hp310) rfl) ?_
         refine c_nil ?_
         refine n_then ?_
         refine c_if rfl (fun hc313 => ?_) (fun hc313 => ?_)
         ·
          refine drawSub (.step 0 0 (.step 0 1 (.step 0 2 (.step 0 3 (.step 1 4 (.step 1 5 (.step 1 6 (.step 2 7 (.step 2 8 .nil))))))))) mixed H309 (fun _ h => h.drop) (by kernel_rfl) (by kernel_rfl) (by kernel_rfl) ?_
          intro w314 H315
          refine pt (v := Ad (bs g16) (0 + 1)) rfl (fun wS HS => y_fld Try.underlying41 rfl rfl sz39 (by decide) s10_25) ?_
          refine pt (v := lv) rfl (fun wS HS => y_load sc39 rfl (HS.cell 1 rfl rfl)) ?_
          refine pt (v := v0) rfl (fun wS HS => y_move s0_25) ?_
          refine pt (v := I ((i : Nat) : Int)) rfl (fun wS HS => y_move s11_25) ?_
          refine pl rfl (ow_call fn103 rfl (leafOf_c v0 cs i _ (hC.st H315).nil (by omega) hle) ⟨rfl, rfl, trivial⟩) ?_
          rintro _ w318 ⟨f316, E317, rfl, he320, hf321, H319⟩
          have H322 : St w _ [_, _, _, _, _] w318 := H315.app H319
          have H323 : St w _ [_, _, _, _, _] w318 := H322.foc 4 rfl rfl
          have H324 : St w _ [_, _, _, _, _] w318 := H323.foc 4 rfl rfl
          have H325 : St w _ [_, _, _, _, _] w318 := H324.foc 4 rfl rfl
          have H326 : St w _ [_, _, _] w318 := H325.take 3 rfl
          refine ⟨H326, ?_⟩
          refine pl rfl (ow_buildSlice (pv := [(0, .agg ([I f316.n, I f316.cell.c.k, .string (bst f316.cell.c.key), f316.cell.v, f316.pv]).toArray)]) (us := [I (f316.n), I (f316.cell.c.k), .string (bst f316.cell.c.key), f316.cell.v, f316.pv]) Try.underlying39 sz74 zr74 H322 ⟨⟨rfl, rfl⟩, trivial⟩ (by decide) (by kernel_rfl)) ?_
          rintro _ w328 ⟨g327, rfl, H329⟩
          have H330 : St w _ [_, _, _, _, _, _] w328 := H329.foc 5 rfl rfl
          have H331 : St w _ [_, _, _, _, _, _] w328 := H330.foc 5 rfl rfl
          have H332 : St w _ [_, _, _, _, _, _] w328 := H331.foc 5 rfl rfl
          have H333 : St w _ [_, _, _] w328 := H332.take 3 rfl
          refine ⟨H333, ?_⟩
          have H339 : St w _ [_, _, _, _, _, _] w328 := H329.foc 2 rfl rfl
          refine pl rfl (ow_append (m := 1) (news := [I (f316.n), I (f316.cell.c.k), .string (bst f316.cell.c.key), f316.cell.v, f316.pv]) Try.underlying39 sz74 zr74 bt74 rfl ho H339 rfl rfl (((H339.rd (n := 1) (s := 5) (cap := 1) 1 rfl (by simp) ⟨Nat.le_refl _, by simp [maxLen]⟩).src Try.underlying39 (by intro u hu; simp only [List.mem_cons, List.not_mem_nil, or_false] at hu; rcases hu with rfl | rfl | rfl | rfl | rfl <;> first | rfl | exact Rd.one (LeafP.lr hf321 (H339.foc 2 rfl rfl)).cell.1 | exact Rd.one (LeafP.lr hf321 (H339.foc 2 rfl rfl)).rd))) (by omega) (by omega)) ?_
          rintro v335 w336 ⟨E334, ho338', H337⟩
          have ho338 : OS 74 5 v335 (ls ++ [f316]).length ((ls ++ [f316]).flatMap Lf.cs) E334 := by rw [flat5_snoc, List.length_append]; exact ho338'
          have H340 : St w _ [_, _, _, _, _, _] w336 := H337.foc 5 rfl rfl
          have H341 : St w _ [_, _, _, _, _, _] w336 := H340.foc 5 rfl rfl
          have H342 : St w _ [_, _, _, _, _, _] w336 := H341.foc 5 rfl rfl
          have H343 : St w _ [_, _, _] w336 := H342.take 3 rfl
          refine ⟨H343, ?_⟩
          refine tly (v := Ad (bs g16) (0 + 1)) rfl (y_fld Try.underlying41 rfl rfl sz39 (by decide) s10_25) ?_
          have H344 : St w _ [_, _, _, _, _, _] w336 := H337.foc 4 rfl rfl
          refine t0 rfl (ow_store (j := 1) H344 sz39 rfl rfl (Rd.one (ho338.rd H344 1 rfl)) rfl (by simp)) ?_
          rintro _ w345 H346'
          have H346 : St w _ [[(g16, Rw 41 ([I ((cs.length : Nat) : Int), v335]))], _, _, _, _, _] w345 := H346'
          refine p_nil ?_
          refine n_then ?_
          refine c_seq ?_
          refine c_reg ?_
          refine sy (v := .bool (decide (ahead kind key ((cs.getD i c0).c.k) ((cs.getD i c0).c.key)))) (y_move rfl) ?_
          refine c_nil ?_
          refine n_then ?_
          refine c_f rfl (decide_eq_false hp310) ?_
          refine wp_skip ?_
          refine n_block (n_then ?_)
          refine c_reg ?_
          refine sy (v := I ((i : Nat) : Int)) (y_move s11_25) ?_
          refine sy (v := I ((i + 1 : Nat) : Int)) (n_add (a := i) (b := 1) rfl rfl (by omega)) ?_
          refine sy (v := I ((i + 1 : Nat) : Int)) (y_assign rfl) ?_
          refine c_nil ?_
          have H347 : St w _ [_, _, _, _, _, _] w345 := H346.foc 5 rfl rfl
          have H348 : St w _ [_, _, _, _, _, _] w345 := H347.foc 3 rfl rfl
          have H349 : St w _ [_, _, _, _, _, _] w345 := H348.foc 3 rfl rfl
          have H350 : St w _ [_, _, _, _, _, _] w345 := H349.foc 3 rfl rfl
          have H351 : St w _ [_, _, _, _, _, _] w345 := H350.foc 5 rfl rfl
          have H352 : St w _ [_, _, _, _, _, _] w345 := H351.foc 5 rfl rfl
          obtain ⟨H353, hd354⟩ := H352.join
          have H355 : St w _ [_, _, _, _, _] w345 := H353.foc 4 rfl rfl
          have H356 : St w _ [_, _, _, _, _] w345 := H355.foc 2 rfl rfl
          have H357 : St w _ [_, _, _, _, _] w345 := H356.foc 2 rfl rfl
          have H358 : St w _ [_, _, _, _, _] w345 := H357.foc 3 rfl rfl
          have H359 : St w _ [_, _, _, _] w345 := H358.take 4 rfl
          have : ¬ 0 < plcI kind key cs i := fun hh => hp310 (plc_pos.1 hh)
          have : plcI kind key cs i ≠ 0 := fun hh => hp27 (plc_zero.1 hh).1
          have : ¬ plcI kind key cs (i + 1) < 0 := fun hh => hp311 (plc_neg.1 hh)
          have : plcI kind key cs (i + 1) ≠ 0 := fun hh => hc313 (plc_zero.1 hh).2
          have hlt : plcI kind key cs i < 0 := by omega
          have hls0 : ls = [] := by
           have h := hm
           rw [mid_no (by omega)] at h
           exact List.map_eq_nil_iff.1 h
          exact lp_next (i + 1) ⟨v335, E334, (F ++ E317), (ls ++ [f316]), s0_25, s1_25, s2_25, s6_25, s10_25, rfl, (by omega), (fun j hj => by
           by_cases e : j = i
           · rw [e]; exact hlt
           · exact hz j (by omega)), ho338, (LeafsP.snoc hf321 hF hd354), (by rw [hls0]; simp), (by rw [mid_yes (by omega), hls0]; show [f316.e] = _; rw [he320]; rfl), H359⟩ (by show _ < _; omega)
         ·
          refine wp_skip ?_
          refine n_then ?_
          refine c_seq ?_
          refine c_reg ?_
          refine sy (v := .bool (decide (ahead kind key ((cs.getD i c0).c.k) ((cs.getD i c0).c.key)))) (y_move rfl) ?_
          refine c_nil ?_
          refine n_then ?_
          refine c_f rfl (decide_eq_false hp310) ?_
          refine wp_skip ?_
          refine n_block (n_then ?_)
          refine c_reg ?_
          refine sy (v := I ((i : Nat) : Int)) (y_move s11_25) ?_
          refine sy (v := I ((i + 1 : Nat) : Int)) (n_add (a := i) (b := 1) rfl rfl (by omega)) ?_
          refine sy (v := I ((i + 1 : Nat) : Int)) (y_assign rfl) ?_
          refine c_nil ?_
          have : ¬ 0 < plcI kind key cs i := fun hh => hp310 (plc_pos.1 hh)
          have : plcI kind key cs i ≠ 0 := fun hh => hp27 (plc_zero.1 hh).1
          have : ¬ plcI kind key cs (i + 1) < 0 := fun hh => hp311 (plc_neg.1 hh)
          have : plcI kind key cs (i + 1) = 0 := plc_zero.2 ⟨hp312, (Classical.not_not.1 hc313)⟩
          have hlt : plcI kind key cs i < 0 := by omega
          have hls0 : ls = [] := by
           have h := hm
           rw [mid_no (by omega)] at h
           exact List.map_eq_nil_iff.1 h
          exact lp_next (i + 1) ⟨lv, E, F, ls, s0_25, s1_25, s2_25, s6_25, s10_25, rfl, (by omega), (fun j hj => by
           by_cases e : j = i
           · rw [e]; exact hlt
           · exact hz j (by omega)), ho, hF, (by omega), (by rw [mid_no (by omega), hls0]; rfl), H309⟩ (by show _ < _; omega)
        ·
         refine gno (gv_of (t := 109) rfl rfl rfl) (decide_eq_false hp312) ?_
         refine gno (gv_of (t := 109) rfl rfl rfl) (decide_eq_false hp312) ?_
         refine gno (gv_of (t := 109) rfl rfl rfl) (decide_eq_false hp312) ?_
         refine gno (gv_of (t := 109) rfl rfl rfl) (decide_eq_false hp312) ?_
         refine gno (gv_of (t := 109) rfl rfl rfl) (decide_eq_false hp312) ?_
         refine gno (gv_of (t := 109) rfl rfl rfl) (decide_eq_false hp312) ?_
         refine gno (gv_of (t := 109) rfl rfl rfl) (decide_eq_false hp312) ?_
         refine gno (gv_of (t := 109) rfl rfl rfl) (decide_eq_false hp312) ?_
         refine gsy (v := .bool (false)) (gv_of (t := 100) rfl rfl rfl) (decide_eq_true hp311) (y_pickF (v := .bool (false)) rfl (decide_eq_false hp312) rfl) ?_
         refine gsy (v := .bool (true)) (gv_of (t := 100) rfl rfl rfl) (decide_eq_true hp311) (y_not (p := false) rfl) ?_
         refine gsy (v := .bool (true)) (gv_of (t := 98) rfl rfl rfl) (decide_eq_false hc304) (y_pickT rfl (decide_eq_true hp311) rfl) ?_
         refine gsy (v := .bool (true)) (gv_of (t := 96) rfl rfl rfl) (decide_eq_true hp310) (y_pickF rfl (decide_eq_false hc304) rfl) ?_
         refine sy (v := .bool (true)) (y_pickT rfl (decide_eq_true hp310) rfl) ?_
         refine c_nil ?_
         refine n_then ?_
         refine c_t rfl rfl ?_
         refine drawSub (.step 0 0 (.step 0 1 (.step 0 2 (.step 0 3 (.step 1 4 (.step 1 5 (.step 1 6 (.step 2 7 (.step 2 8 .nil))))))))) mixed H309 (fun _ h => h.drop) (by kernel_rfl) (by kernel_rfl) (by kernel_rfl) ?_
         intro w360 H361
         refine pt (v := Ad (bs g16) (0 + 1)) rfl (fun wS HS => y_fld Try.underlying41 rfl rfl sz39 (by decide) s10_25) ?_
         refine pt (v := lv) rfl (fun wS HS => y_load sc39 rfl (HS.cell 1 rfl rfl)) ?_
         refine pt (v := v0) rfl (fun wS HS => y_move s0_25) ?_
         refine pt (v := I ((i : Nat) : Int)) rfl (fun wS HS => y_move s11_25) ?_
         refine pl rfl (ow_call fn103 rfl (leafOf_c v0 cs i _ (hC.st H361).nil (by omega) hle) ⟨rfl, rfl, trivial⟩) ?_
         rintro _ w364 ⟨f362, E363, rfl, he366, hf367, H365⟩
         have H368 : St w _ [_, _, _, _, _] w364 := H361.app H365
         have H369 : St w _ [_, _, _, _, _] w364 := H368.foc 4 rfl rfl
         have H370 : St w _ [_, _, _, _, _] w364 := H369.foc 4 rfl rfl
         have H371 : St w _ [_, _, _, _, _] w364 := H370.foc 4 rfl rfl
         have H372 : St w _ [_, _, _] w364 := H371.take 3 rfl
         refine ⟨H372, ?_⟩
         refine pl rfl (ow_buildSlice (pv := [(0, .agg ([I f362.n, I f362.cell.c.k, .string (bst f362.cell.c.key), f362.cell.v, f362.pv]).toArray)]) (us := [I (f362.n), I (f362.cell.c.k), .string (bst f362.cell.c.key), f362.cell.v, f362.pv]) Try.underlying39 sz74 zr74 H368 ⟨⟨rfl, rfl⟩, trivial⟩ (by decide) (by kernel_rfl)) ?_
         rintro _ w374 ⟨g373, rfl, H375⟩
         have H376 : St w _ [_, _, _, _, _, _] w374 := H375.foc 5 rfl rfl
         have H377 : St w _ [_, _, _, _, _, _] w374 := H376.foc 5 rfl rfl
         have H378 : St w _ [_, _, _, _, _, _] w374 := H377.foc 5 rfl rfl
         have H379 : St w _ [_, _, _] w374 := H378.take 3 rfl
         refine ⟨H379, ?_⟩
         have H385 : St w _ [_, _, _, _, _, _] w374 := H375.foc 2 rfl rfl
         refine pl rfl (ow_append (m := 1) (news := [I (f362.n), I (f362.cell.c.k), .string (bst f362.cell.c.key), f362.cell.v, f362.pv]) Try.underlying39 sz74 zr74 bt74 rfl ho H385 rfl rfl (((H385.rd (n := 1) (s := 5) (cap := 1) 1 rfl (by simp) ⟨Nat.le_refl _, by simp [maxLen]⟩).src Try.underlying39 (by intro u hu; simp only [List.mem_cons, List.not_mem_nil, or_false] at hu; rcases hu with rfl | rfl | rfl | rfl | rfl <;> first | rfl | exact Rd.one (LeafP.lr hf367 (H385.foc 2 rfl rfl)).cell.1 | exact Rd.one (LeafP.lr hf367 (H385.foc 2 rfl rfl)).rd))) (by omega) (by omega)) ?_
         rintro v381 w382 ⟨E380, ho384', H383⟩
         have ho384 : OS 74 5 v381 (ls ++ [f362]).length ((ls ++ [f362]).flatMap Lf.cs) E380 := by rw [flat5_snoc, List.length_append]; exact ho384'
         have H386 : St w _ [_, _, _, _, _, _] w382 := H383.foc 5 rfl rfl
         have H387 : St w _ [_, _, _, _, _, _] w382 := H386.foc 5 rfl rfl
         have H388 : St w _ [_, _, _, _, _, _] w382 := H387.foc 5 rfl rfl
         have H389 : St w _ [_, _, _] w382 := H388.take 3 rfl
         refine ⟨H389, ?_⟩
         refine tly (v := Ad (bs g16) (0 + 1)) rfl (y_fld Try.underlying41 rfl rfl sz39 (by decide) s10_25) ?_
         have H390 : St w _ [_, _, _, _, _, _] w382 := H383.foc 4 rfl rfl
         refine t0 rfl (ow_store (j := 1) H390 sz39 rfl rfl (Rd.one (ho384.rd H390 1 rfl)) rfl (by simp)) ?_
         rintro _ w391 H392'
         have H392 : St w _ [[(g16, Rw 41 ([I ((cs.length : Nat) : Int), v381]))], _, _, _, _, _] w391 := H392'
         refine p_nil ?_
         refine n_then ?_
         refine c_seq ?_
         refine c_reg ?_
         refine sy (v := .bool (decide (ahead kind key ((cs.getD i c0).c.k) ((cs.getD i c0).c.key)))) (y_move rfl) ?_
         refine c_nil ?_
         refine n_then ?_
         refine c_f rfl (decide_eq_false hp310) ?_
         refine wp_skip ?_
         refine n_block (n_then ?_)
         refine c_reg ?_
         refine sy (v := I ((i : Nat) : Int)) (y_move s11_25) ?_
         refine sy (v := I ((i + 1 : Nat) : Int)) (n_add (a := i) (b := 1) rfl rfl (by omega)) ?_
         refine sy (v := I ((i + 1 : Nat) : Int)) (y_assign rfl) ?_
         refine c_nil ?_
         have H393 : St w _ [_, _, _, _, _, _] w391 := H392.foc 5 rfl rfl
         have H394 : St w _ [_, _, _, _, _, _] w391 := H393.foc 3 rfl rfl
         have H395 : St w _ [_, _, _, _, _, _] w391 := H394.foc 3 rfl rfl
         have H396 : St w _ [_, _, _, _, _, _] w391 := H395.foc 3 rfl rfl
         have H397 : St w _ [_, _, _, _, _, _] w391 := H396.foc 5 rfl rfl
         have H398 : St w _ [_, _, _, _, _, _] w391 := H397.foc 5 rfl rfl
         obtain ⟨H399, hd400⟩ := H398.join
         have H401 : St w _ [_, _, _, _, _] w391 := H399.foc 4 rfl rfl
         have H402 : St w _ [_, _, _, _, _] w391 := H401.foc 2 rfl rfl
         have H403 : St w _ [_, _, _, _, _] w391 := H402.foc 2 rfl rfl
         have H404 : St w _ [_, _, _, _, _] w391 := H403.foc 3 rfl rfl
         have H405 : St w _ [_, _, _, _] w391 := H404.take 4 rfl
         have : ¬ 0 < plcI kind key cs i := fun hh => hp310 (plc_pos.1 hh)
         have : plcI kind key cs i ≠ 0 := fun hh => hp27 (plc_zero.1 hh).1
         have : ¬ plcI kind key cs (i + 1) < 0 := fun hh => hp311 (plc_neg.1 hh)
         have : plcI kind key cs (i + 1) ≠ 0 := fun hh => hp312 (plc_zero.1 hh).1
         have hlt : plcI kind key cs i < 0 := by omega
         have hls0 : ls = [] := by
          have h := hm
          rw [mid_no (by omega)] at h
          exact List.map_eq_nil_iff.1 h
         exact lp_next (i + 1) ⟨v381, E380, (F ++ E363), (ls ++ [f362]), s0_25, s1_25, s2_25, s6_25, s10_25, rfl, (by omega), (fun j hj => by
          by_cases e : j = i
          · rw [e]; exact hlt
          · exact hz j (by omega)), ho384, (LeafsP.snoc hf367 hF hd400), (by rw [hls0]; simp), (by rw [mid_yes (by omega), hls0]; show [f362.e] = _; rw [he366]; rfl), H405⟩ (by show _ < _; omega)
       ·
        refine gno (gv_of (t := 100) rfl rfl rfl) (decide_eq_false hp311) ?_
        refine gno (gv_of (t := 100) rfl rfl rfl) (decide_eq_false hp311) ?_
        refine gno (gv_of (t := 100) rfl rfl rfl) (decide_eq_false hp311) ?_
        refine gno (gv_of (t := 100) rfl rfl rfl) (decide_eq_false hp311) ?_
        refine gno (gv_of (t := 100) rfl rfl rfl) (decide_eq_false hp311) ?_
        refine gno (gv_of (t := 100) rfl rfl rfl) (decide_eq_false hp311) ?_
        refine gno (gv_of (t := 100) rfl rfl rfl) (decide_eq_false hp311) ?_
        refine gno (gv_of (t := 100) rfl rfl rfl) (decide_eq_false hp311) ?_
        refine gno (gv_of (t := 100) rfl rfl rfl) (decide_eq_false hp311) ?_
        refine gun (gv_of (t := 109) rfl rfl rfl) ?_
        refine gun (gv_of (t := 109) rfl rfl rfl) ?_
        refine gun (gv_of (t := 109) rfl rfl rfl) ?_
        refine gun (gv_of (t := 109) rfl rfl rfl) ?_
        refine gun (gv_of (t := 109) rfl rfl rfl) ?_
        refine gun (gv_of (t := 109) rfl rfl rfl) ?_
        refine gun (gv_of (t := 109) rfl rfl rfl) ?_
        refine gun (gv_of (t := 109) rfl rfl rfl) ?_
        refine gno (gv_of (t := 100) rfl rfl rfl) (decide_eq_false hp311) ?_
        refine gno (gv_of (t := 100) rfl rfl rfl) (decide_eq_false hp311) ?_
        refine gsy (v := .bool (false)) (gv_of (t := 98) rfl rfl rfl) (decide_eq_false hc304) (y_pickF (v := .bool (false)) rfl (decide_eq_false hp311) rfl) ?_
        refine gsy (v := .bool (false)) (gv_of (t := 96) rfl rfl rfl) (decide_eq_true hp310) (y_pickF rfl (decide_eq_false hc304) rfl) ?_
        refine sy (v := .bool (false)) (y_pickT rfl (decide_eq_true hp310) rfl) ?_
        refine c_nil ?_
        refine n_then ?_
        refine c_f rfl rfl ?_
        refine wp_skip ?_
        refine n_then ?_
        refine c_seq ?_
        refine c_reg ?_
        refine sy (v := .bool (decide (ahead kind key ((cs.getD i c0).c.k) ((cs.getD i c0).c.key)))) (y_move rfl) ?_
        refine c_nil ?_
        refine n_then ?_
        refine c_f rfl (decide_eq_false hp310) ?_
        refine wp_skip ?_
        refine n_block (n_then ?_)
        refine c_reg ?_
        refine sy (v := I ((i : Nat) : Int)) (y_move s11_25) ?_
        refine sy (v := I ((i + 1 : Nat) : Int)) (n_add (a := i) (b := 1) rfl rfl (by omega)) ?_
        refine sy (v := I ((i + 1 : Nat) : Int)) (y_assign rfl) ?_
        refine c_nil ?_
        have : ¬ 0 < plcI kind key cs i := fun hh => hp310 (plc_pos.1 hh)
        have : plcI kind key cs i ≠ 0 := fun hh => hp27 (plc_zero.1 hh).1
        have : plcI kind key cs (i + 1) < 0 := plc_neg.2 (Classical.not_not.1 hp311)
        have hlt : plcI kind key cs i < 0 := by omega
        have hls0 : ls = [] := by
         have h := hm
         rw [mid_no (by omega)] at h
         exact List.map_eq_nil_iff.1 h
        exact lp_next (i + 1) ⟨lv, E, F, ls, s0_25, s1_25, s2_25, s6_25, s10_25, rfl, (by omega), (fun j hj => by
         by_cases e : j = i
         · rw [e]; exact hlt
         · exact hz j (by omega)), ho, hF, (by omega), (by rw [mid_no (by omega), hls0]; rfl), H309⟩ (by show _ < _; omega)
      ·
       refine gno (gv_of (t := 96) rfl rfl rfl) (decide_eq_false hp310) ?_
       refine gno (gv_of (t := 96) rfl rfl rfl) (decide_eq_false hp310) ?_
       refine gun (gv_of (t := 98) rfl rfl rfl) ?_
       refine gun (gv_of (t := 98) rfl rfl rfl) ?_
       refine gun (gv_of (t := 100) rfl rfl rfl) ?_
       refine gun (gv_of (t := 100) rfl rfl rfl) ?_
       refine gun (gv_of (t := 100) rfl rfl rfl) ?_
       refine gun (gv_of (t := 100) rfl rfl rfl) ?_
       refine gun (gv_of (t := 100) rfl rfl rfl) ?_
       refine gun (gv_of (t := 100) rfl rfl rfl) ?_
       refine gun (gv_of (t := 100) rfl rfl rfl) ?_
       refine gun (gv_of (t := 100) rfl rfl rfl) ?_
       refine gun (gv_of (t := 100) rfl rfl rfl) ?_
       refine gun (gv_of (t := 109) rfl rfl rfl) ?_
       refine gun (gv_of (t := 109) rfl rfl rfl) ?_
       refine gun (gv_of (t := 109) rfl rfl rfl) ?_
       refine gun (gv_of (t := 109) rfl rfl rfl) ?_
       refine gun (gv_of (t := 109) rfl rfl rfl) ?_
       refine gun (gv_of (t := 109) rfl rfl rfl) ?_
       refine gun (gv_of (t := 109) rfl rfl rfl) ?_
       refine gun (gv_of (t := 109) rfl rfl rfl) ?_
       refine gun (gv_of (t := 100) rfl rfl rfl) ?_
       refine gun (gv_of (t := 100) rfl rfl rfl) ?_
       refine gun (gv_of (t := 98) rfl rfl rfl) ?_
       refine gno (gv_of (t := 96) rfl rfl rfl) (decide_eq_false hp310) ?_
       refine sy (v := .bool (false)) (y_pickF (v := .bool (false)) rfl (decide_eq_false hp310) rfl) ?_
       refine c_nil ?_
       refine n_then ?_
       refine c_f rfl rfl ?_
       refine wp_skip ?_
       refine n_then ?_
       refine c_seq ?_
       refine c_reg ?_
       refine sy (v := .bool (decide (ahead kind key ((cs.getD i c0).c.k) ((cs.getD i c0).c.key)))) (y_move rfl) ?_
       refine c_nil ?_
       refine n_then ?_
       refine c_t rfl (decide_eq_true (Classical.not_not.1 hp310)) ?_
       refine c_seq ?_
       refine drawSub (.step 0 0 (.step 0 1 (.step 0 2 (.step 0 3 (.step 1 4 (.step 1 5 (.step 1 6 (.step 2 7 (.step 2 8 .nil))))))))) mixed H309 (fun _ h => h.drop) (by kernel_rfl) (by kernel_rfl) (by kernel_rfl) ?_
       intro w406 H407
       refine pt (v := Ad (bs g16) (0 + 1)) rfl (fun wS HS => y_fld Try.underlying41 rfl rfl sz39 (by decide) s10_25) ?_
       refine pt (v := lv) rfl (fun wS HS => y_load sc39 rfl (HS.cell 1 rfl rfl)) ?_
       refine pt (v := v0) rfl (fun wS HS => y_move s0_25) ?_
       refine pt (v := I ((i : Nat) : Int)) rfl (fun wS HS => y_move s11_25) ?_
       refine pl rfl (ow_call fn103 rfl (leafOf_c v0 cs i _ (hC.st H407).nil (by omega) hle) ⟨rfl, rfl, trivial⟩) ?_
       rintro _ w410 ⟨f408, E409, rfl, he412, hf413, H411⟩
       have H414 : St w _ [_, _, _, _, _] w410 := H407.app H411
       have H415 : St w _ [_, _, _, _, _] w410 := H414.foc 4 rfl rfl
       have H416 : St w _ [_, _, _, _, _] w410 := H415.foc 4 rfl rfl
       have H417 : St w _ [_, _, _, _, _] w410 := H416.foc 4 rfl rfl
       have H418 : St w _ [_, _, _] w410 := H417.take 3 rfl
       refine ⟨H418, ?_⟩
       refine pl rfl (ow_buildSlice (pv := [(0, .agg ([I f408.n, I f408.cell.c.k, .string (bst f408.cell.c.key), f408.cell.v, f408.pv]).toArray)]) (us := [I (f408.n), I (f408.cell.c.k), .string (bst f408.cell.c.key), f408.cell.v, f408.pv]) Try.underlying39 sz74 zr74 H414 ⟨⟨rfl, rfl⟩, trivial⟩ (by decide) (by kernel_rfl)) ?_
       rintro _ w420 ⟨g419, rfl, H421⟩
       have H422 : St w _ [_, _, _, _, _, _] w420 := H421.foc 5 rfl rfl
       have H423 : St w _ [_, _, _, _, _, _] w420 := H422.foc 5 rfl rfl
       have H424 : St w _ [_, _, _, _, _, _] w420 := H423.foc 5 rfl rfl
       have H425 : St w _ [_, _, _] w420 := H424.take 3 rfl
       refine ⟨H425, ?_⟩
       have H431 : St w _ [_, _, _, _, _, _] w420 := H421.foc 2 rfl rfl
       refine pl rfl (ow_append (m := 1) (news := [I (f408.n), I (f408.cell.c.k), .string (bst f408.cell.c.key), f408.cell.v, f408.pv]) Try.underlying39 sz74 zr74 bt74 rfl ho H431 rfl rfl (((H431.rd (n := 1) (s := 5) (cap := 1) 1 rfl (by simp) ⟨Nat.le_refl _, by simp [maxLen]⟩).src Try.underlying39 (by intro u hu; simp only [List.mem_cons, List.not_mem_nil, or_false] at hu; rcases hu with rfl | rfl | rfl | rfl | rfl <;> first | rfl | exact Rd.one (LeafP.lr hf413 (H431.foc 2 rfl rfl)).cell.1 | exact Rd.one (LeafP.lr hf413 (H431.foc 2 rfl rfl)).rd))) (by omega) (by omega)) ?_
       rintro v427 w428 ⟨E426, ho430', H429⟩
       have ho430 : OS 74 5 v427 (ls ++ [f408]).length ((ls ++ [f408]).flatMap Lf.cs) E426 := by rw [flat5_snoc, List.length_append]; exact ho430'
       have H432 : St w _ [_, _, _, _, _, _] w428 := H429.foc 5 rfl rfl
       have H433 : St w _ [_, _, _, _, _, _] w428 := H432.foc 5 rfl rfl
       have H434 : St w _ [_, _, _, _, _, _] w428 := H433.foc 5 rfl rfl
       have H435 : St w _ [_, _, _] w428 := H434.take 3 rfl
       refine ⟨H435, ?_⟩
       refine tly (v := Ad (bs g16) (0 + 1)) rfl (y_fld Try.underlying41 rfl rfl sz39 (by decide) s10_25) ?_
       have H436 : St w _ [_, _, _, _, _, _] w428 := H429.foc 4 rfl rfl
       refine t0 rfl (ow_store (j := 1) H436 sz39 rfl rfl (Rd.one (ho430.rd H436 1 rfl)) rfl (by simp)) ?_
       rintro _ w437 H438'
       have H438 : St w _ [[(g16, Rw 41 ([I ((cs.length : Nat) : Int), v427]))], _, _, _, _, _] w437 := H438'
       refine p_nil ?_
       refine n_then ?_
       refine c_seq ?_
       refine c_reg ?_
       refine sy (v := .agg ([I ((cs.length : Nat) : Int), v427]).toArray) (y_loadA (us := [I ((cs.length : Nat) : Int), v427]) ag41 sz41 rfl s10_25 (fun j u hu => (H438.cell 0 rfl (by rw [Nat.zero_add]; exact hu)))) ?_
       have H439 : St w _ [_, _, _, _, _, _] w437 := H438.foc 5 rfl rfl
       refine s0 (ow_storeW (us := [I ((cs.length : Nat) : Int), v427]) H439 sz41 rfl s6_25 rfl (by intro u hu; simp only [List.mem_cons, List.not_mem_nil, or_false] at hu; rcases hu with rfl | rfl <;> first | rfl | exact Rd.one (ho430.rd H439 2 rfl)) (by simp [*])) ?_
       rintro _ w440 H441'
       have H441 : St w _ [[(g1, Rw 41 ([I ((cs.length : Nat) : Int), v427]))], _, _, _, _, _] w440 := H441'
       refine sy (v := I ((0 : Nat) : Int)) (y_assign (v := I ((0 : Nat) : Int)) rfl) ?_
       refine c_nil ?_
       refine n_then ?_
       refine wp_ret ?_
       refine r_block (r_then (r_then (r_block (r_then ?_))))
       refine e_r2 Try.results46 (rv_b H441 (i := 0) rfl ag41 sz41 rfl s6_25) (rv_t rfl) ?_
       have : 0 < plcI kind key cs i := plc_pos.2 (Classical.not_not.1 hp310)
       have : plcI kind key cs i ≠ 0 := fun hh => hp27 (plc_zero.1 hh).1
       have H442 : St w _ [_, _, _, _, _, _] w440 := H441.foc 3 rfl rfl
       have H443 : St w _ [_, _, _, _, _, _] w440 := H442.foc 3 rfl rfl
       have H444 : St w _ [_, _, _, _, _, _] w440 := H443.foc 3 rfl rfl
       have H445 : St w _ [_, _, _, _, _, _] w440 := H444.foc 3 rfl rfl
       have H446 : St w _ [_, _, _, _, _, _] w440 := H445.foc 5 rfl rfl
       have H447 : St w _ [_, _, _, _, _, _] w440 := H446.foc 5 rfl rfl
       obtain ⟨H448, hd449⟩ := H447.join
       have H450 : St w _ [_, _, _, _, _] w440 := H448.foc 3 rfl rfl
       have H451 : St w _ [_, _, _, _, _] w440 := H450.foc 1 rfl rfl
       have H452 : St w _ [_, _] w440 := H451.take 2 rfl
       obtain ⟨H453, hd454⟩ := H452.join
       exact ⟨_, rfl, _, _, (ls ++ [f408]), 0, _, rfl, .inr (.inr ⟨hkm, hwr, (List.length_map _).symm, rfl, i, isP_mk hi hz (fun _ => by omega), (by rw [at_pos (by omega) (by omega), ← hm, PE, PE, List.map_append]; show _ ++ [f408.e] = _; rw [he412])⟩), ⟨_, _, rfl, ho430, (LeafsP.snoc hf413 hF hd449), hd454, by rw [List.length_append, List.length_singleton]; omega⟩, H453⟩
     ·
      refine wp_skip ?_
      refine n_then ?_
      refine c_seq ?_
      refine c_seq ?_
      refine c_reg ?_
      refine sy (v := .bool (decide (ahead kind key ((cs.getD i c0).c.k) ((cs.getD i c0).c.key)))) (y_move rfl) ?_
      refine sy (v := .bool (decide (¬ (ahead kind key ((cs.getD i c0).c.k) ((cs.getD i c0).c.key))))) (y_notP rfl) ?_
      refine sy (v := .bool (decide (¬ (ahead kind key ((cs.getD i c0).c.k) ((cs.getD i c0).c.key))))) (y_move rfl) ?_
      by_cases hp455 : ¬ (ahead kind key ((cs.getD i c0).c.k) ((cs.getD i c0).c.key))
      ·
       refine gsy (v := .bool (decide ((i + 1) = cs.length))) (gv_of (t := 96) rfl rfl rfl) (decide_eq_true hp455) (y_move rfl) ?_
       refine gsy (v := .bool (decide ((i + 1) = cs.length))) (gv_of (t := 96) rfl rfl rfl) (decide_eq_true hp455) (y_move rfl) ?_
       refine gno (gv_of (t := 98) rfl rfl rfl) (decide_eq_true (Classical.not_not.1 hc304)) ?_
       refine gno (gv_of (t := 98) rfl rfl rfl) (decide_eq_true (Classical.not_not.1 hc304)) ?_
       refine gun (gv_of (t := 100) rfl rfl rfl) ?_
       refine gun (gv_of (t := 100) rfl rfl rfl) ?_
       refine gun (gv_of (t := 100) rfl rfl rfl) ?_
       refine gun (gv_of (t := 100) rfl rfl rfl) ?_
       refine gun (gv_of (t := 100) rfl rfl rfl) ?_
       refine gun (gv_of (t := 100) rfl rfl rfl) ?_
       refine gun (gv_of (t := 100) rfl rfl rfl) ?_
       refine gun (gv_of (t := 100) rfl rfl rfl) ?_
       refine gun (gv_of (t := 100) rfl rfl rfl) ?_
       refine gun (gv_of (t := 109) rfl rfl rfl) ?_
       refine gun (gv_of (t := 109) rfl rfl rfl) ?_
       refine gun (gv_of (t := 109) rfl rfl rfl) ?_
       refine gun (gv_of (t := 109) rfl rfl rfl) ?_
       refine gun (gv_of (t := 109) rfl rfl rfl) ?_
       refine gun (gv_of (t := 109) rfl rfl rfl) ?_
       refine gun (gv_of (t := 109) rfl rfl rfl) ?_
       refine gun (gv_of (t := 109) rfl rfl rfl) ?_
       refine gun (gv_of (t := 100) rfl rfl rfl) ?_
       refine gun (gv_of (t := 100) rfl rfl rfl) ?_
       refine gno (gv_of (t := 98) rfl rfl rfl) (decide_eq_true (Classical.not_not.1 hc304)) ?_
       refine gsy (v := .bool (true)) (gv_of (t := 96) rfl rfl rfl) (decide_eq_true hp455) (y_pickT (v := .bool (true)) rfl (decide_eq_true (Classical.not_not.1 hc304)) rfl) ?_
       refine sy (v := .bool (true)) (y_pickT rfl (decide_eq_true hp455) rfl) ?_
       refine c_nil ?_
       refine n_then ?_
       refine c_t rfl rfl ?_
       refine drawSub (.step 0 0 (.step 0 1 (.step 0 2 (.step 0 3 (.step 1 4 (.step 1 5 (.step 1 6 (.step 2 7 (.step 2 8 .nil))))))))) mixed H303 (fun _ h => h.drop) (by kernel_rfl) (by kernel_rfl) (by kernel_rfl) ?_
       intro w456 H457
       refine pt (v := Ad (bs g16) (0 + 1)) rfl (fun wS HS => y_fld Try.underlying41 rfl rfl sz39 (by decide) s10_25) ?_
       refine pt (v := lv) rfl (fun wS HS => y_load sc39 rfl (HS.cell 1 rfl rfl)) ?_
       refine pt (v := v0) rfl (fun wS HS => y_move s0_25) ?_
       refine pt (v := I ((i : Nat) : Int)) rfl (fun wS HS => y_move s11_25) ?_
       refine pl rfl (ow_call fn103 rfl (leafOf_c v0 cs i _ (hC.st H457).nil (by omega) hle) ⟨rfl, rfl, trivial⟩) ?_
       rintro _ w460 ⟨f458, E459, rfl, he462, hf463, H461⟩
       have H464 : St w _ [_, _, _, _, _] w460 := H457.app H461
       have H465 : St w _ [_, _, _, _, _] w460 := H464.foc 4 rfl rfl
       have H466 : St w _ [_, _, _, _, _] w460 := H465.foc 4 rfl rfl
       have H467 : St w _ [_, _, _, _, _] w460 := H466.foc 4 rfl rfl
       have H468 : St w _ [_, _, _] w460 := H467.take 3 rfl
       refine ⟨H468, ?_⟩
       refine pl rfl (ow_buildSlice (pv := [(0, .agg ([I f458.n, I f458.cell.c.k, .string (bst f458.cell.c.key), f458.cell.v, f458.pv]).toArray)]) (us := [I (f458.n), I (f458.cell.c.k), .string (bst f458.cell.c.key), f458.cell.v, f458.pv]) Try.underlying39 sz74 zr74 H464 ⟨⟨rfl, rfl⟩, trivial⟩ (by decide) (by kernel_rfl)) ?_
       rintro _ w470 ⟨g469, rfl, H471⟩
       have H472 : St w _ [_, _, _, _, _, _] w470 := H471.foc 5 rfl rfl
       have H473 : St w _ [_, _, _, _, _, _] w470 := H472.foc 5 rfl rfl
       have H474 : St w _ [_, _, _, _, _, _] w470 := H473.foc 5 rfl rfl
       have H475 : St w _ [_, _, _] w470 := H474.take 3 rfl
       refine ⟨H475, ?_⟩
       have H481 : St w _ [_, _, _, _, _, _] w470 := H471.foc 2 rfl rfl
       refine pl rfl (ow_append (m := 1) (news := [I (f458.n), I (f458.cell.c.k), .string (bst f458.cell.c.key), f458.cell.v, f458.pv]) Try.underlying39 sz74 zr74 bt74 rfl ho H481 rfl rfl (((H481.rd (n := 1) (s := 5) (cap := 1) 1 rfl (by simp) ⟨Nat.le_refl _, by simp [maxLen]⟩).src Try.underlying39 (by intro u hu; simp only [List.mem_cons, List.not_mem_nil, or_false] at hu; rcases hu with rfl | rfl | rfl | rfl | rfl <;> first | rfl | exact Rd.one (LeafP.lr hf463 (H481.foc 2 rfl rfl)).cell.1 | exact Rd.one (LeafP.lr hf463 (H481.foc 2 rfl rfl)).rd))) (by omega) (by omega)) ?_
       rintro v477 w478 ⟨E476, ho480', H479⟩
       have ho480 : OS 74 5 v477 (ls ++ [f458]).length ((ls ++ [f458]).flatMap Lf.cs) E476 := by rw [flat5_snoc, List.length_append]; exact ho480'
       have H482 : St w _ [_, _, _, _, _, _] w478 := H479.foc 5 rfl rfl
       have H483 : St w _ [_, _, _, _, _, _] w478 := H482.foc 5 rfl rfl
       have H484 : St w _ [_, _, _, _, _, _] w478 := H483.foc 5 rfl rfl
       have H485 : St w _ [_, _, _] w478 := H484.take 3 rfl
       refine ⟨H485, ?_⟩
       refine tly (v := Ad (bs g16) (0 + 1)) rfl (y_fld Try.underlying41 rfl rfl sz39 (by decide) s10_25) ?_
       have H486 : St w _ [_, _, _, _, _, _] w478 := H479.foc 4 rfl rfl
       refine t0 rfl (ow_store (j := 1) H486 sz39 rfl rfl (Rd.one (ho480.rd H486 1 rfl)) rfl (by simp)) ?_
       rintro _ w487 H488'
       have H488 : St w _ [[(g16, Rw 41 ([I ((cs.length : Nat) : Int), v477]))], _, _, _, _, _] w487 := H488'
       refine p_nil ?_
       refine n_then ?_
       refine c_seq ?_
       refine c_reg ?_
       refine sy (v := .bool (decide (ahead kind key ((cs.getD i c0).c.k) ((cs.getD i c0).c.key)))) (y_move rfl) ?_
       refine c_nil ?_
       refine n_then ?_
       refine c_f rfl (decide_eq_false hp455) ?_
       refine wp_skip ?_
       refine n_block (n_then ?_)
       refine c_reg ?_
       refine sy (v := I ((i : Nat) : Int)) (y_move s11_25) ?_
       refine sy (v := I ((i + 1 : Nat) : Int)) (n_add (a := i) (b := 1) rfl rfl (by omega)) ?_
       refine sy (v := I ((i + 1 : Nat) : Int)) (y_assign rfl) ?_
       refine c_nil ?_
       have H489 : St w _ [_, _, _, _, _, _] w487 := H488.foc 5 rfl rfl
       have H490 : St w _ [_, _, _, _, _, _] w487 := H489.foc 3 rfl rfl
       have H491 : St w _ [_, _, _, _, _, _] w487 := H490.foc 3 rfl rfl
       have H492 : St w _ [_, _, _, _, _, _] w487 := H491.foc 3 rfl rfl
       have H493 : St w _ [_, _, _, _, _, _] w487 := H492.foc 5 rfl rfl
       have H494 : St w _ [_, _, _, _, _, _] w487 := H493.foc 5 rfl rfl
       obtain ⟨H495, hd496⟩ := H494.join
       have H497 : St w _ [_, _, _, _, _] w487 := H495.foc 4 rfl rfl
       have H498 : St w _ [_, _, _, _, _] w487 := H497.foc 2 rfl rfl
       have H499 : St w _ [_, _, _, _, _] w487 := H498.foc 2 rfl rfl
       have H500 : St w _ [_, _, _, _, _] w487 := H499.foc 3 rfl rfl
       have H501 : St w _ [_, _, _, _] w487 := H500.take 4 rfl
       have : ¬ 0 < plcI kind key cs i := fun hh => hp455 (plc_pos.1 hh)
       have : plcI kind key cs i ≠ 0 := fun hh => hp27 (plc_zero.1 hh).1
       have hlt : plcI kind key cs i < 0 := by omega
       have hls0 : ls = [] := by
        have h := hm
        rw [mid_no (by omega)] at h
        exact List.map_eq_nil_iff.1 h
       exact lp_next (i + 1) ⟨v477, E476, (F ++ E459), (ls ++ [f458]), s0_25, s1_25, s2_25, s6_25, s10_25, rfl, (by omega), (fun j hj => by
        by_cases e : j = i
        · rw [e]; exact hlt
        · exact hz j (by omega)), ho480, (LeafsP.snoc hf463 hF hd496), (by rw [hls0]; simp), (by rw [mid_yes (by omega), hls0]; show [f458.e] = _; rw [he462]; rfl), H501⟩ (by show _ < _; omega)
      ·
       refine gno (gv_of (t := 96) rfl rfl rfl) (decide_eq_false hp455) ?_
       refine gno (gv_of (t := 96) rfl rfl rfl) (decide_eq_false hp455) ?_
       refine gun (gv_of (t := 98) rfl rfl rfl) ?_
       refine gun (gv_of (t := 98) rfl rfl rfl) ?_
       refine gun (gv_of (t := 100) rfl rfl rfl) ?_
       refine gun (gv_of (t := 100) rfl rfl rfl) ?_
       refine gun (gv_of (t := 100) rfl rfl rfl) ?_
       refine gun (gv_of (t := 100) rfl rfl rfl) ?_
       refine gun (gv_of (t := 100) rfl rfl rfl) ?_
       refine gun (gv_of (t := 100) rfl rfl rfl) ?_
       refine gun (gv_of (t := 100) rfl rfl rfl) ?_
       refine gun (gv_of (t := 100) rfl rfl rfl) ?_
       refine gun (gv_of (t := 100) rfl rfl rfl) ?_
       refine gun (gv_of (t := 109) rfl rfl rfl) ?_
       refine gun (gv_of (t := 109) rfl rfl rfl) ?_
       refine gun (gv_of (t := 109) rfl rfl rfl) ?_
       refine gun (gv_of (t := 109) rfl rfl rfl) ?_
       refine gun (gv_of (t := 109) rfl rfl rfl) ?_
       refine gun (gv_of (t := 109) rfl rfl rfl) ?_
       refine gun (gv_of (t := 109) rfl rfl rfl) ?_
       refine gun (gv_of (t := 109) rfl rfl rfl) ?_
       refine gun (gv_of (t := 100) rfl rfl rfl) ?_
       refine gun (gv_of (t := 100) rfl rfl rfl) ?_
       refine gun (gv_of (t := 98) rfl rfl rfl) ?_
       refine gno (gv_of (t := 96) rfl rfl rfl) (decide_eq_false hp455) ?_
       refine sy (v := .bool (false)) (y_pickF (v := .bool (false)) rfl (decide_eq_false hp455) rfl) ?_
       refine c_nil ?_
       refine n_then ?_
       refine c_f rfl rfl ?_
       refine wp_skip ?_
       refine n_then ?_
       refine c_seq ?_
       refine c_reg ?_
       refine sy (v := .bool (decide (ahead kind key ((cs.getD i c0).c.k) ((cs.getD i c0).c.key)))) (y_move rfl) ?_
       refine c_nil ?_
       refine n_then ?_
       refine c_t rfl (decide_eq_true (Classical.not_not.1 hp455)) ?_
       refine c_seq ?_
       refine drawSub (.step 0 0 (.step 0 1 (.step 0 2 (.step 0 3 (.step 1 4 (.step 1 5 (.step 1 6 (.step 2 7 (.step 2 8 .nil))))))))) mixed H303 (fun _ h => h.drop) (by kernel_rfl) (by kernel_rfl) (by kernel_rfl) ?_
       intro w502 H503
       refine pt (v := Ad (bs g16) (0 + 1)) rfl (fun wS HS => y_fld Try.underlying41 rfl rfl sz39 (by decide) s10_25) ?_
       refine pt (v := lv) rfl (fun wS HS => y_load sc39 rfl (HS.cell 1 rfl rfl)) ?_
       refine pt (v := v0) rfl (fun wS HS => y_move s0_25) ?_
       refine pt (v := I ((i : Nat) : Int)) rfl (fun wS HS => y_move s11_25) ?_
       refine pl rfl (ow_call fn103 rfl (leafOf_c v0 cs i _ (hC.st H503).nil (by omega) hle) ⟨rfl, rfl, trivial⟩) ?_
       rintro _ w506 ⟨f504, E505, rfl, he508, hf509, H507⟩
       have H510 : St w _ [_, _, _, _, _] w506 := H503.app H507
       have H511 : St w _ [_, _, _, _, _] w506 := H510.foc 4 rfl rfl
       have H512 : St w _ [_, _, _, _, _] w506 := H511.foc 4 rfl rfl
       have H513 : St w _ [_, _, _, _, _] w506 := H512.foc 4 rfl rfl
       have H514 : St w _ [_, _, _] w506 := H513.take 3 rfl
       refine ⟨H514, ?_⟩
       refine pl rfl (ow_buildSlice (pv := [(0, .agg ([I f504.n, I f504.cell.c.k, .string (bst f504.cell.c.key), f504.cell.v, f504.pv]).toArray)]) (us := [I (f504.n), I (f504.cell.c.k), .string (bst f504.cell.c.key), f504.cell.v, f504.pv]) Try.underlying39 sz74 zr74 H510 ⟨⟨rfl, rfl⟩, trivial⟩ (by decide) (by kernel_rfl)) ?_
       rintro _ w516 ⟨g515, rfl, H517⟩
       have H518 : St w _ [_, _, _, _, _, _] w516 := H517.foc 5 rfl rfl
       have H519 : St w _ [_, _, _, _, _, _] w516 := H518.foc 5 rfl rfl
       have H520 : St w _ [_, _, _, _, _, _] w516 := H519.foc 5 rfl rfl
       have H521 : St w _ [_, _, _] w516 := H520.take 3 rfl
       refine ⟨H521, ?_⟩
       have H527 : St w _ [_, _, _, _, _, _] w516 := H517.foc 2 rfl rfl
       refine pl rfl (ow_append (m := 1) (news := [I (f504.n), I (f504.cell.c.k), .string (bst f504.cell.c.key), f504.cell.v, f504.pv]) Try.underlying39 sz74 zr74 bt74 rfl ho H527 rfl rfl (((H527.rd (n := 1) (s := 5) (cap := 1) 1 rfl (by simp) ⟨Nat.le_refl _, by simp [maxLen]⟩).src Try.underlying39 (by intro u hu; simp only [List.mem_cons, List.not_mem_nil, or_false] at hu; rcases hu with rfl | rfl | rfl | rfl | rfl <;> first | rfl | exact Rd.one (LeafP.lr hf509 (H527.foc 2 rfl rfl)).cell.1 | exact Rd.one (LeafP.lr hf509 (H527.foc 2 rfl rfl)).rd))) (by omega) (by omega)) ?_
       rintro v523 w524 ⟨E522, ho526', H525⟩
       have ho526 : OS 74 5 v523 (ls ++ [f504]).length ((ls ++ [f504]).flatMap Lf.cs) E522 := by rw [flat5_snoc, List.length_append]; exact ho526'
       have H528 : St w _ [_, _, _, _, _, _] w524 := H525.foc 5 rfl rfl
       have H529 : St w _ [_, _, _, _, _, _] w524 := H528.foc 5 rfl rfl
       have H530 : St w _ [_, _, _, _, _, _] w524 := H529.foc 5 rfl rfl
       have H531 : St w _ [_, _, _] w524 := H530.take 3 rfl
       refine ⟨H531, ?_⟩
       refine tly (v := Ad (bs g16) (0 + 1)) rfl (y_fld Try.underlying41 rfl rfl sz39 (by decide) s10_25) ?_
       have H532 : St w _ [_, _, _, _, _, _] w524 := H525.foc 4 rfl rfl
       refine t0 rfl (ow_store (j := 1) H532 sz39 rfl rfl (Rd.one (ho526.rd H532 1 rfl)) rfl (by simp)) ?_
       rintro _ w533 H534'
       have H534 : St w _ [[(g16, Rw 41 ([I ((cs.length : Nat) : Int), v523]))], _, _, _, _, _] w533 := H534'
       refine p_nil ?_
       refine n_then ?_
       refine c_seq ?_
       refine c_reg ?_
       refine sy (v := .agg ([I ((cs.length : Nat) : Int), v523]).toArray) (y_loadA (us := [I ((cs.length : Nat) : Int), v523]) ag41 sz41 rfl s10_25 (fun j u hu => (H534.cell 0 rfl (by rw [Nat.zero_add]; exact hu)))) ?_
       have H535 : St w _ [_, _, _, _, _, _] w533 := H534.foc 5 rfl rfl
       refine s0 (ow_storeW (us := [I ((cs.length : Nat) : Int), v523]) H535 sz41 rfl s6_25 rfl (by intro u hu; simp only [List.mem_cons, List.not_mem_nil, or_false] at hu; rcases hu with rfl | rfl <;> first | rfl | exact Rd.one (ho526.rd H535 2 rfl)) (by simp [*])) ?_
       rintro _ w536 H537'
       have H537 : St w _ [[(g1, Rw 41 ([I ((cs.length : Nat) : Int), v523]))], _, _, _, _, _] w536 := H537'
       refine sy (v := I ((0 : Nat) : Int)) (y_assign (v := I ((0 : Nat) : Int)) rfl) ?_
       refine c_nil ?_
       refine n_then ?_
       refine wp_ret ?_
       refine r_block (r_then (r_then (r_block (r_then ?_))))
       refine e_r2 Try.results46 (rv_b H537 (i := 0) rfl ag41 sz41 rfl s6_25) (rv_t rfl) ?_
       have : 0 < plcI kind key cs i := plc_pos.2 (Classical.not_not.1 hp455)
       have : plcI kind key cs i ≠ 0 := fun hh => hp27 (plc_zero.1 hh).1
       have H538 : St w _ [_, _, _, _, _, _] w536 := H537.foc 3 rfl rfl
       have H539 : St w _ [_, _, _, _, _, _] w536 := H538.foc 3 rfl rfl
       have H540 : St w _ [_, _, _, _, _, _] w536 := H539.foc 3 rfl rfl
       have H541 : St w _ [_, _, _, _, _, _] w536 := H540.foc 3 rfl rfl
       have H542 : St w _ [_, _, _, _, _, _] w536 := H541.foc 5 rfl rfl
       have H543 : St w _ [_, _, _, _, _, _] w536 := H542.foc 5 rfl rfl
       obtain ⟨H544, hd545⟩ := H543.join
       have H546 : St w _ [_, _, _, _, _] w536 := H544.foc 3 rfl rfl
       have H547 : St w _ [_, _, _, _, _] w536 := H546.foc 1 rfl rfl
       have H548 : St w _ [_, _] w536 := H547.take 2 rfl
       obtain ⟨H549, hd550⟩ := H548.join
       exact ⟨_, rfl, _, _, (ls ++ [f504]), 0, _, rfl, .inr (.inr ⟨hkm, hwr, (List.length_map _).symm, rfl, i, isP_mk hi hz (fun _ => by omega), (by rw [at_pos (by omega) (by omega), ← hm, PE, PE, List.map_append]; show _ ++ [f504.e] = _; rw [he508])⟩), ⟨_, _, rfl, ho526, (LeafsP.snoc hf509 hF hd545), hd550, by rw [List.length_append, List.length_singleton]; omega⟩, H549⟩
   ·
    refine wp_exit ?_
    refine x_then (x_then (x_hit (n_then ?_)))
    refine c_seq ?_
    refine c_reg ?_
    refine sy (v := .agg ([I ((cs.length : Nat) : Int), lv]).toArray) (y_loadA (us := [I ((cs.length : Nat) : Int), lv]) ag41 sz41 rfl s10_25 (fun j u hu => (H25.cell 2 rfl (by rw [Nat.zero_add]; exact hu)))) ?_
    have H551 : St w _ [_, _, _, _] w24 := H25.foc 3 rfl rfl
    refine s0 (ow_storeW (us := [I ((cs.length : Nat) : Int), lv]) H551 sz41 rfl s6_25 rfl (by intro u hu; simp only [List.mem_cons, List.not_mem_nil, or_false] at hu; rcases hu with rfl | rfl <;> first | rfl | exact Rd.one (ho.rd H551 1 rfl)) (by simp [*])) ?_
    rintro _ w552 H553'
    have H553 : St w _ [[(g1, Rw 41 ([I ((cs.length : Nat) : Int), lv]))], _, _, _] w552 := H553'
    refine sy (v := I ((0 : Nat) : Int)) (y_assign (v := I ((0 : Nat) : Int)) rfl) ?_
    refine c_nil ?_
    refine n_then ?_
    refine wp_ret ?_
    refine e_r2 Try.results46 (rv_b H553 (i := 0) rfl ag41 sz41 rfl s6_25) (rv_t rfl) ?_
    obtain rfl : i = cs.length := by omega
    have H554 : St w _ [_, _, _, _] w552 := H553.foc 1 rfl rfl
    have H555 : St w _ [_, _, _, _] w552 := H554.foc 2 rfl rfl
    have H556 : St w _ [_, _] w552 := H555.take 2 rfl
    obtain ⟨H557, hd558⟩ := H556.join
    exact ⟨_, rfl, _, _, ls, 0, _, rfl, .inr (.inr ⟨hkm, hwr, (List.length_map _).symm, rfl, cs.length, isP_mk (Nat.le_refl _) hz (fun h => absurd h (Nat.lt_irrefl _)), (by rw [at_end]; exact hm)⟩), ⟨_, _, rfl, ho, hF, hd558, by omega⟩, H557⟩

end Go.Proofs.Ytdcmbcjkdhdohaa
