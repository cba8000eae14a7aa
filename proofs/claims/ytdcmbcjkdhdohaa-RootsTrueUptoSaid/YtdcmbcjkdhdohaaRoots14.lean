/- The walk of the reference's Find. -/
import Derived.Test.YtdcmbcjkdhdohaaRoots13
namespace Go.Proofs.Ytdcmbcjkdhdohaa
open Go Go.RowKit
set_option linter.unusedSimpArgs false
set_option linter.unusedVariables false
attribute [local irreducible] wpList wpP Code.wp

def midL (kind : Int) (key : List UInt8) (cs : List Cl) (i : Nat) : List Le := if 0 < i ∧ (i = cs.length ∨ 0 < plcI kind key cs i) then [leafAt (PL cs) (i - 1)] else []
theorem mid_yes {kind : Int} {key : List UInt8} {cs : List Cl} {i : Nat} (h : 0 < i ∧ (i = cs.length ∨ 0 < plcI kind key cs i)) : midL kind key cs i = [leafAt (PL cs) (i - 1)] := if_pos h
theorem mid_no {kind : Int} {key : List UInt8} {cs : List Cl} {i : Nat} (h : ¬ (0 < i ∧ (i = cs.length ∨ 0 < plcI kind key cs i))) : midL kind key cs i = [] := if_neg h
theorem hit_iff {kind : Int} {key : List UInt8} {cs : List Cl} {i : Nat} : hitAt kind key (PL cs) i ↔ i < cs.length ∧ plcI kind key cs i = 0 := by
  unfold hitAt; rw [List.length_map, pl_getD]
theorem isP_mk {kind : Int} {key : List UInt8} {cs : List Cl} {i : Nat} (h1 : i ≤ cs.length) (h2 : ∀ j, j < i → plcI kind key cs j < 0) (h3 : i < cs.length → ¬ plcI kind key cs i < 0) : IsP kind key (PL cs) i :=
  ⟨by rw [List.length_map]; exact h1, fun j hj => by rw [pl_getD]; exact h2 j hj, fun h => by rw [pl_getD]; rw [List.length_map] at h; exact h3 h⟩
theorem at_hit {kind : Int} {key : List UInt8} {cs : List Cl} {i : Nat} (h : i < cs.length) (h2 : plcI kind key cs i = 0) : leavesAt kind key (PL cs) i = [leafAt (PL cs) i] := if_pos (hit_iff.2 ⟨h, h2⟩)
theorem at_pos {kind : Int} {key : List UInt8} {cs : List Cl} {i : Nat} (h : i < cs.length) (h2 : 0 < plcI kind key cs i) : leavesAt kind key (PL cs) i = midL kind key cs i ++ [leafAt (PL cs) i] := by
  unfold leavesAt
  rw [if_neg (fun h3 => by have := (hit_iff.1 h3).2; omega), List.length_map, if_pos h]
  by_cases h0 : 0 < i
  · rw [if_pos h0, mid_yes ⟨h0, .inr h2⟩]
  · rw [if_neg h0, mid_no (fun h3 => h0 h3.1)]
theorem at_end {kind : Int} {key : List UInt8} {cs : List Cl} : leavesAt kind key (PL cs) cs.length = midL kind key cs cs.length := by
  unfold leavesAt
  rw [if_neg (fun h3 => by have := (hit_iff.1 h3).1; omega), List.length_map, if_neg (Nat.lt_irrefl _), List.append_nil]
  by_cases h0 : 0 < cs.length
  · rw [if_pos h0, mid_yes ⟨h0, .inl rfl⟩]
  · rw [if_neg h0, mid_no (fun h3 => h0 h3.1)]
theorem os_leaf {g : Nat} {f : Lf} : OS 74 5 (.slice (some (bs g)) 1 1) 1 f.cs [(g, Rw 74 f.cs)] := .inr ⟨g, 1, f.cs, rfl, rfl, Nat.le_refl _, by simp [maxLen], rfl, rfl⟩

attribute [local irreducible] leafH innerH topH rootH rootA sha checkA

set_option maxHeartbeats 4000000 in
set_option maxRecDepth 20000 in
theorem rfind_c (kind : Int) (key : List UInt8) (v0 : Value) (cs : List Cl) (w : World) (hC : CsR [] w v0 cs) :
    Calls Try.prog 46 (([v0, I (kind), .string (bst key)] : List Value).toArray) w (fun e w' => ∃ v, e = .returned v ∧ ∃ (n' : Nat) (lv : Value) (ls : List Lf) (err : Nat) (EB : Part), v = .tuple #[.agg ([I ((n' : Nat) : Int), lv] : List Value).toArray, I ((err : Nat) : Int)] ∧ FindsA kind key (PL cs) n' (PE ls) err ∧ LsP lv ls EB ∧ St w [] [EB] w') := by
 have hle := hC.le
 refine calls_mk Try.func46 rfl 142 Try.ntmps46 rfl ?_
 have H0 : St w [] [] w := St.refl w
 refine c_seq ?_
 refine c_reg ?_
 refine st (ow_alloc (l := [I ((0 : Nat) : Int), .slice none 0 0]) H0 zr41 rfl) ?_
 rintro _ w2 ⟨g1, rfl, H3⟩
 refine sy (v := I ((0 : Nat) : Int)) (y_assign (v := I ((0 : Nat) : Int)) rfl) ?_
 refine c_nil ?_
 refine n_then ?_
 refine c_seq ?_
 refine c_reg ?_
 refine sy (v := I (kind)) (y_move rfl) ?_
 refine st (ow_call fn83 rfl (kindMay_c (kind) _) ⟨rfl, trivial⟩) ?_
 rintro _ w4 ⟨rfl, hB5⟩
 have H6 : St w _ [_] w4 := H3.call hB5
 refine sy (v := .bool (decide (kMay kind))) (y_assign rfl) ?_
 refine c_nil ?_
 refine n_then ?_
 refine c_seq ?_
 refine c_seq ?_
 refine c_reg ?_
 refine sy (v := .bool (decide (kMay kind))) (y_move rfl) ?_
 refine sy (v := .bool (decide (¬ (kMay kind)))) (y_notP rfl) ?_
 refine c_nil ?_
 refine n_then ?_
 refine c_if rfl (fun hc7 => ?_) (fun hc7 => ?_)
 ·
  refine c_seq ?_
  refine c_reg ?_
  refine sy (v := .agg ([I ((0 : Nat) : Int), .slice none 0 0]).toArray) (y_build (parts := []) (pv := []) (us := [I ((0 : Nat) : Int), .slice none 0 0]) trivial (by kernel_rfl)) ?_
  refine s0 (ow_storeW (us := [I ((0 : Nat) : Int), .slice none 0 0]) H6 sz41 rfl rfl rfl (by simp [Value.oneCell']) (by simp [*])) ?_
  rintro _ w8 H9'
  have H9 : St w _ [[(g1, Rw 41 ([I ((0 : Nat) : Int), .slice none 0 0]))]] w8 := H9'
  refine sy (v := I ((40 : Nat) : Int)) (y_assign (v := I ((40 : Nat) : Int)) rfl) ?_
  refine c_nil ?_
  refine n_then ?_
  refine wp_ret ?_
  refine r_then ?_
  refine e_r2 Try.results46 (rv_b H9 (i := 0) rfl ag41 sz41 rfl rfl) (rv_t rfl) ?_
  exact ⟨_, rfl, 0, _, [], 40, _, rfl, .inl ⟨by assumption, rfl, rfl, rfl⟩, LsP.nil, (H9.take 0 rfl).nilp⟩
 ·
  refine wp_skip ?_
  refine n_then ?_
  refine c_seq ?_
  refine c_reg ?_
  refine sy (v := v0) (y_move rfl) ?_
  refine st (ow_call fn33 rfl (Wrong_c (v0) (cs) _ (hC.st H6).nil) ⟨rfl, trivial⟩) ?_
  rintro _ w10 ⟨rfl, hB11⟩
  have H12 : St w _ [_] w10 := H6.call hB11
  refine sy (v := I ((wrong (cs.map (fun q : Cl => q.c)) : Nat) : Int)) (y_assign rfl) ?_
  refine c_nil ?_
  refine n_then ?_
  refine c_seq ?_
  refine c_seq ?_
  refine c_reg ?_
  refine sy (v := I ((wrong (cs.map (fun q : Cl => q.c)) : Nat) : Int)) (y_move rfl) ?_
  refine sy (v := .bool (decide ((wrong (cs.map (fun q : Cl => q.c))) ≠ 0))) (n_neq (a := wrong (cs.map (fun q : Cl => q.c))) (b := 0) rfl rfl) ?_
  refine c_nil ?_
  refine n_then ?_
  refine c_if rfl (fun hc13 => ?_) (fun hc13 => ?_)
  ·
   refine c_seq ?_
   refine c_reg ?_
   refine sy (v := .agg ([I ((0 : Nat) : Int), .slice none 0 0]).toArray) (y_build (parts := []) (pv := []) (us := [I ((0 : Nat) : Int), .slice none 0 0]) trivial (by kernel_rfl)) ?_
   refine sy (v := I ((wrong (cs.map (fun q : Cl => q.c)) : Nat) : Int)) (y_move rfl) ?_
   refine s0 (ow_storeW (us := [I ((0 : Nat) : Int), .slice none 0 0]) H12 sz41 rfl rfl rfl (by simp [Value.oneCell']) (by simp [*])) ?_
   rintro _ w14 H15'
   have H15 : St w _ [[(g1, Rw 41 ([I ((0 : Nat) : Int), .slice none 0 0]))]] w14 := H15'
   refine sy (v := I ((wrong (cs.map (fun q : Cl => q.c)) : Nat) : Int)) (y_assign rfl) ?_
   refine c_nil ?_
   refine n_then ?_
   refine wp_ret ?_
   refine r_then ?_
   refine e_r2 Try.results46 (rv_b H15 (i := 0) rfl ag41 sz41 rfl rfl) (rv_t rfl) ?_
   exact ⟨_, rfl, 0, _, [], _, _, rfl, .inr (.inl ⟨by first | assumption | exact Decidable.not_not.1 (by assumption), by assumption, rfl, rfl, rfl⟩), LsP.nil, (H15.take 0 rfl).nilp⟩
  ·
   refine wp_skip ?_
   refine n_then ?_
   refine c_seq ?_
   refine c_reg ?_
   refine sy (v := v0) (y_move rfl) ?_
   refine sy (v := I ((cs.length : Nat) : Int)) (y_lenR Try.underlying38 (hC.st H12).rd rfl) ?_
   refine sy (v := .agg ([I ((cs.length : Nat) : Int), .slice none 0 0]).toArray) (y_build (pv := [(0, I ((cs.length : Nat) : Int))]) (us := [I ((cs.length : Nat) : Int), .slice none 0 0]) ⟨⟨rfl, rfl⟩, trivial⟩ (by kernel_rfl)) ?_
   refine st (ow_alloc (l := [I ((0 : Nat) : Int), .slice none 0 0]) H12 zr41 rfl) ?_
   rintro _ w17 ⟨g16, rfl, H18⟩
   refine s0 (ow_storeW (us := [I ((cs.length : Nat) : Int), .slice none 0 0]) H18 sz41 rfl rfl rfl (by simp [Value.oneCell']) (by simp [*])) ?_
   rintro _ w19 H20'
   have H20 : St w _ [[(g16, Rw 41 ([I ((cs.length : Nat) : Int), .slice none 0 0]))], _] w19 := H20'
   refine c_nil ?_
   refine n_then ?_
   refine c_seq ?_
   refine c_seq ?_
   have H21 : St w _ [_, _, _] w19 := H20.nilp
   have H22 : St w _ [_, _, _, _] w19 := H21.nilp
   have hwr : wrong (PL cs) = 0 := Decidable.not_not.1 (show ¬ ¬ (wrong (PL cs) = 0) by assumption)
   have hkm : kMay kind := by first | assumption | exact Decidable.not_not.1 (by assumption)
   refine c_reg ?_
   refine sy (v := I ((0 : Nat) : Int)) (y_assign (v := I ((0 : Nat) : Int)) rfl) ?_
   refine c_nil ?_
   refine n_then ?_
   refine wp_block ?_
   refine c_loop (fun (i : Nat) f23 w24 => ∃ (lv : Value), ∃ (E : Part), ∃ (F : Part), ∃ (ls : List Lf), f23 0 = v0 ∧ f23 1 = I (kind) ∧ f23 2 = .string (bst key) ∧ f23 6 = Ad (bs g1) (0) ∧ f23 10 = Ad (bs g16) (0) ∧ f23 11 = I ((i : Nat) : Int) ∧ i ≤ cs.length ∧ (∀ j, j < i → plcI kind key cs j < 0) ∧ OS 74 5 lv ls.length (ls.flatMap Lf.cs) E ∧ LeafsP ls F ∧ ls.length ≤ 1 ∧ PE ls = midL kind key cs i ∧ St w [] [E, F, [(g16, Rw 41 ([I ((cs.length : Nat) : Int), lv]))], [(g1, Rw 41 ([I ((0 : Nat) : Int), .slice none 0 0]))]] w24) (fun i => cs.length - i) 0 ⟨(.slice none 0 0), [], [], [], rfl, rfl, rfl, rfl, rfl, rfl, (Nat.zero_le _), (fun j hj => absurd hj (by omega)), (OS.nil 74 5), rfl, (by simp), (mid_no (by omega)).symm, H22⟩ ?_
   rintro i f23 w24 ⟨lv, E, F, ls, s0_25, s1_25, s2_25, s6_25, s10_25, s11_25, hi, hz, ho, hF, hln, hm, H25⟩
   refine c_seq ?_
   refine c_seq ?_
   refine c_reg ?_
   refine sy (v := I ((i : Nat) : Int)) (y_move s11_25) ?_
   refine sy (v := v0) (y_move s0_25) ?_
   refine sy (v := I ((cs.length : Nat) : Int)) (y_lenR Try.underlying38 (hC.st H25).rd rfl) ?_
   refine sy (v := .bool (decide (i < cs.length))) (n_lss (a := i) (b := cs.length) rfl rfl) ?_
   refine c_nil ?_
   refine n_then ?_
   refine c_if rfl (fun hc26 => ?_) (fun hc26 => ?_)
   ·
    refine wp_skip ?_
    refine n_then ?_
    refine c_seq ?_
    refine wp_block ?_
    refine c_seq ?_
    refine c_seq ?_
    refine c_reg ?_
    refine sy (v := v0) (y_move s0_25) ?_
    refine sy (v := I ((i : Nat) : Int)) (y_move s11_25) ?_
    refine sy (v := Ad (sp (v0)) (i * 3)) (y_ixR (m := i) Try.underlying38 sz48 (hC.st H25).rd (by decide) rfl rfl rfl (by omega)) ?_
    refine sy (v := Ad (sp (v0)) ((i * 3) + 0)) (y_fld Try.underlying48 rfl rfl sz3 (by decide) rfl) ?_
    refine sy (v := I ((cs.getD i c0).c.k)) (y_load sc3 rfl ((hC.st H25).rd.cell _ _ (flat3_get (i := i) (j := 0) (d := c0) (by omega) rfl))) ?_
    refine sy (v := I (kind)) (y_move s1_25) ?_
    refine sy (v := .bool (decide (((cs.getD i c0).c.k) = kind))) (y_eqlK (i := ((cs.getD i c0).c.k)) (j := kind) rfl rfl) ?_
    refine sy (v := .bool (decide (((cs.getD i c0).c.k) = kind))) (y_move rfl) ?_
    by_cases hp27 : ((cs.getD i c0).c.k) = kind
    ·
     refine gsy (v := v0) (gv_of (t := 42) rfl rfl rfl) (decide_eq_true hp27) (y_move s0_25) ?_
     refine gsy (v := I ((i : Nat) : Int)) (gv_of (t := 42) rfl rfl rfl) (decide_eq_true hp27) (y_move s11_25) ?_
     refine gsy (v := Ad (sp (v0)) (i * 3)) (gv_of (t := 42) rfl rfl rfl) (decide_eq_true hp27) (y_ixR (m := i) Try.underlying38 sz48 (hC.st H25).rd (by decide) rfl rfl rfl (by omega)) ?_
     refine gsy (v := Ad (sp (v0)) ((i * 3) + 1)) (gv_of (t := 42) rfl rfl rfl) (decide_eq_true hp27) (y_fld Try.underlying48 rfl rfl sz9 (by decide) rfl) ?_
     refine gsy (v := .string (bst ((cs.getD i c0).c.key))) (gv_of (t := 42) rfl rfl rfl) (decide_eq_true hp27) (y_load sc9 rfl ((hC.st H25).rd.cell _ _ (flat3_get (i := i) (j := 1) (d := c0) (by omega) rfl))) ?_
     refine gsy (v := .string (bst key)) (gv_of (t := 42) rfl rfl rfl) (decide_eq_true hp27) (y_move s2_25) ?_
     refine gsy (v := .bool (decide (((cs.getD i c0).c.key) = key))) (gv_of (t := 42) rfl rfl rfl) (decide_eq_true hp27) (y_eqlS (a := (cs.getD i c0).c.key) (b := key) rfl rfl) ?_
     refine sy (v := .bool (decide (((cs.getD i c0).c.key) = key))) (y_pickT rfl (decide_eq_true hp27) rfl) ?_
     refine c_nil ?_
     refine n_then ?_
     refine c_if rfl (fun hc28 => ?_) (fun hc28 => ?_)
     ·
      refine c_seq ?_
      refine c_reg ?_
      refine sy (v := v0) (y_move s0_25) ?_
      refine sy (v := I ((cs.length : Nat) : Int)) (y_lenR Try.underlying38 (hC.st H25).rd rfl) ?_
      refine sy (v := v0) (y_move s0_25) ?_
      refine sy (v := I ((i : Nat) : Int)) (y_move s11_25) ?_
      refine st (ow_call fn103 rfl (leafOf_c v0 cs i _ (hC.st H25).nil (by omega) hle) ⟨rfl, rfl, trivial⟩) ?_
      rintro _ w31 ⟨f29, E30, rfl, he33, hf34, H32⟩
      have H35 : St w _ [_, _, _, _, _] w31 := H25.app H32
      refine st (ow_buildSlice (pv := [(0, .agg ([I f29.n, I f29.cell.c.k, .string (bst f29.cell.c.key), f29.cell.v, f29.pv]).toArray)]) (us := [I (f29.n), I (f29.cell.c.k), .string (bst f29.cell.c.key), f29.cell.v, f29.pv]) Try.underlying39 sz74 zr74 H35 ⟨⟨rfl, rfl⟩, trivial⟩ (by decide) (by kernel_rfl)) ?_
      rintro _ w37 ⟨g36, rfl, H38⟩
      refine sy (v := .agg ([I ((cs.length : Nat) : Int), .slice (some (bs g36)) 1 1]).toArray) (y_build (pv := [(0, I ((cs.length : Nat) : Int)), (1, .slice (some (bs g36)) 1 1)]) (us := [I ((cs.length : Nat) : Int), .slice (some (bs g36)) 1 1]) ⟨⟨rfl, rfl⟩, ⟨rfl, rfl⟩, trivial⟩ (by kernel_rfl)) ?_
      have H39 : St w _ [_, _, _, _, _, _] w37 := H38.foc 5 rfl rfl
      refine s0 (ow_storeW (us := [I ((cs.length : Nat) : Int), .slice (some (bs g36)) 1 1]) H39 sz41 rfl s6_25 rfl (by simp [Value.oneCell']) (by simp [*])) ?_
      rintro _ w40 H41'
      have H41 : St w _ [[(g1, Rw 41 ([I ((cs.length : Nat) : Int), .slice (some (bs g36)) 1 1]))], _, _, _, _, _] w40 := H41'
      refine sy (v := I ((0 : Nat) : Int)) (y_assign (v := I ((0 : Nat) : Int)) rfl) ?_
      refine c_nil ?_
      refine n_then ?_
      refine wp_ret ?_
      refine r_then (r_block (r_then (r_then (r_block (r_then ?_)))))
      refine e_r2 Try.results46 (rv_b H41 (i := 0) rfl ag41 sz41 rfl s6_25) (rv_t rfl) ?_
      have H42 : St w _ [_, _, _, _, _, _] w40 := H41.foc 1 rfl rfl
      have H43 : St w _ [_, _, _, _, _, _] w40 := H42.foc 2 rfl rfl
      have H44 : St w _ [_, _] w40 := H43.take 2 rfl
      have : plcI kind key cs i = 0 := plc_zero.2 ⟨hp27, hc28⟩
      obtain ⟨H45, hd46⟩ := H44.join
      exact ⟨_, rfl, _, _, [f29], 0, _, rfl, .inr (.inr ⟨hkm, hwr, (List.length_map _).symm, rfl, i, isP_mk hi hz (fun _ => by omega), (by rw [at_hit (by omega) (by omega)]; show [f29.e] = _; rw [he33])⟩), ⟨_, _, rfl, (by rw [List.flatMap_singleton]; exact os_leaf), ⟨E30, [], (List.append_nil _).symm, hf34, rfl⟩, hd46, by simp⟩, H45⟩
     ·
      refine wp_skip ?_
      refine n_then ?_
      refine c_seq ?_
      refine drawS (.step 0 0 (.step 0 1 (.step 0 2 (.step 0 3 (.step 0 4 (.step 0 5 (.step 0 6 (.step 0 7 (.step 0 8 (.step 0 9 (.step 0 10 (.step 0 11 (.step 1 12 (.step 2 13 .nil)))))))))))))) mixed H25 (by kernel_rfl) (by kernel_rfl) (by kernel_rfl) ?_
      intro w47 H48
      refine pt (v := I (kind)) rfl (fun wS HS => y_move s1_25) ?_
      refine pt (v := .string (bst key)) rfl (fun wS HS => y_move s2_25) ?_
      refine pt (v := v0) rfl (fun wS HS => y_move s0_25) ?_
      refine pt (v := I ((i : Nat) : Int)) rfl (fun wS HS => y_move s11_25) ?_
      refine pt (v := Ad (sp (v0)) (i * 3)) rfl (fun wS HS => y_ixR (m := i) Try.underlying38 sz48 (hC.st HS).rd (by decide) rfl rfl rfl (by omega)) ?_
      refine pt (v := Ad (sp (v0)) ((i * 3) + 0)) rfl (fun wS HS => y_fld Try.underlying48 rfl rfl sz3 (by decide) rfl) ?_
      refine pt (v := I ((cs.getD i c0).c.k)) rfl (fun wS HS => y_load sc3 rfl ((hC.st HS).rd.cell _ _ (flat3_get (i := i) (j := 0) (d := c0) (by omega) rfl))) ?_
      refine pt (v := v0) rfl (fun wS HS => y_move s0_25) ?_
      refine pt (v := I ((i : Nat) : Int)) rfl (fun wS HS => y_move s11_25) ?_
      refine pt (v := Ad (sp (v0)) (i * 3)) rfl (fun wS HS => y_ixR (m := i) Try.underlying38 sz48 (hC.st HS).rd (by decide) rfl rfl rfl (by omega)) ?_
      refine pt (v := Ad (sp (v0)) ((i * 3) + 1)) rfl (fun wS HS => y_fld Try.underlying48 rfl rfl sz9 (by decide) rfl) ?_
      refine pt (v := .string (bst ((cs.getD i c0).c.key))) rfl (fun wS HS => y_load sc9 rfl ((hC.st HS).rd.cell _ _ (flat3_get (i := i) (j := 1) (d := c0) (by omega) rfl))) ?_
      refine pl rfl (ow_call fn84 rfl (ahead_c (kind) (key) ((cs.getD i c0).c.k) ((cs.getD i c0).c.key) _) ⟨rfl, rfl, rfl, rfl, trivial⟩) ?_
      rintro _ w49 ⟨rfl, hB50⟩
      have H51 : St w _ [_, _, _, _] w49 := H48.call hB50
      refine ⟨H51, ?_⟩
      refine tly (v := .bool (decide (ahead kind key ((cs.getD i c0).c.k) ((cs.getD i c0).c.key)))) rfl (y_assign rfl) ?_
      refine p_nil ?_
      refine n_then ?_
      refine c_seq ?_
      refine c_reg ?_
      refine sy (v := I ((i : Nat) : Int)) (y_move s11_25) ?_
      refine sy (v := I ((i + 1 : Nat) : Int)) (n_add (a := i) (b := 1) rfl rfl (by omega)) ?_
      refine sy (v := v0) (y_move s0_25) ?_
      refine sy (v := I ((cs.length : Nat) : Int)) (y_lenR Try.underlying38 (hC.st H51).rd rfl) ?_
      refine sy (v := .bool (decide ((i + 1) = cs.length))) (n_eql (a := i + 1) (b := cs.length) rfl rfl) ?_
      refine sy (v := .bool (decide ((i + 1) = cs.length))) (y_assign rfl) ?_
      refine c_nil ?_
      refine n_then ?_
      refine c_seq ?_
      refine c_reg ?_
      refine sy (v := .bool (false)) (y_assign (v := .bool (false)) rfl) ?_
      refine c_nil ?_
      refine n_then ?_
      refine c_seq ?_
      refine c_seq ?_
      refine c_reg ?_
      refine sy (v := .bool (decide ((i + 1) = cs.length))) (y_move rfl) ?_
      refine sy (v := .bool (decide (¬ ((i + 1) = cs.length)))) (y_notP rfl) ?_
      refine c_nil ?_
      refine n_then ?_
      refine c_if rfl (fun hc52 => ?_) (fun hc52 => ?_)
      ·
       refine drawS (.step 0 0 (.step 0 1 (.step 0 2 (.step 0 3 (.step 0 4 (.step 0 5 (.step 0 6 (.step 0 7 (.step 0 8 (.step 0 9 (.step 0 10 (.step 0 11 (.step 0 12 (.step 0 13 (.step 1 14 (.step 0 15 (.step 2 16 .nil))))))))))))))))) mixed H51 (by kernel_rfl) (by kernel_rfl) (by kernel_rfl) ?_
       intro w53 H54
       refine pt (v := v0) rfl (fun wS HS => y_move s0_25) ?_
       refine pt (v := I ((i : Nat) : Int)) rfl (fun wS HS => y_move s11_25) ?_
       refine pt (v := I ((i + 1 : Nat) : Int)) rfl (fun wS HS => n_add (a := i) (b := 1) rfl rfl (by omega)) ?_
       refine pt (v := Ad (sp (v0)) ((i + 1) * 3)) rfl (fun wS HS => y_ixR (m := i + 1) Try.underlying38 sz48 (hC.st HS).rd (by decide) rfl rfl rfl (by omega)) ?_
       refine pt (v := Ad (sp (v0)) (((i + 1) * 3) + 0)) rfl (fun wS HS => y_fld Try.underlying48 rfl rfl sz3 (by decide) rfl) ?_
       refine pt (v := I ((cs.getD (i + 1) c0).c.k)) rfl (fun wS HS => y_load sc3 rfl ((hC.st HS).rd.cell _ _ (flat3_get (i := i + 1) (j := 0) (d := c0) (by omega) rfl))) ?_
       refine pt (v := v0) rfl (fun wS HS => y_move s0_25) ?_
       refine pt (v := I ((i : Nat) : Int)) rfl (fun wS HS => y_move s11_25) ?_
       refine pt (v := I ((i + 1 : Nat) : Int)) rfl (fun wS HS => n_add (a := i) (b := 1) rfl rfl (by omega)) ?_
       refine pt (v := Ad (sp (v0)) ((i + 1) * 3)) rfl (fun wS HS => y_ixR (m := i + 1) Try.underlying38 sz48 (hC.st HS).rd (by decide) rfl rfl rfl (by omega)) ?_
       refine pt (v := Ad (sp (v0)) (((i + 1) * 3) + 1)) rfl (fun wS HS => y_fld Try.underlying48 rfl rfl sz9 (by decide) rfl) ?_
       refine pt (v := .string (bst ((cs.getD (i + 1) c0).c.key))) rfl (fun wS HS => y_load sc9 rfl ((hC.st HS).rd.cell _ _ (flat3_get (i := i + 1) (j := 1) (d := c0) (by omega) rfl))) ?_
       refine pt (v := I (kind)) rfl (fun wS HS => y_move s1_25) ?_
       refine pt (v := .string (bst key)) rfl (fun wS HS => y_move s2_25) ?_
       refine pl rfl (ow_call fn84 rfl (ahead_c ((cs.getD (i + 1) c0).c.k) ((cs.getD (i + 1) c0).c.key) (kind) (key) _) ⟨rfl, rfl, rfl, rfl, trivial⟩) ?_
       rintro _ w55 ⟨rfl, hB56⟩
       have H57 : St w _ [_, _, _, _] w55 := H54.call hB56
       refine ⟨H57, ?_⟩
       refine pt (v := .bool (decide (¬ (ahead ((cs.getD (i + 1) c0).c.k) ((cs.getD (i + 1) c0).c.key) kind key)))) rfl (fun wS HS => y_notP rfl) ?_
       refine tly (v := .bool (decide (¬ (ahead ((cs.getD (i + 1) c0).c.k) ((cs.getD (i + 1) c0).c.key) kind key)))) rfl (y_assign rfl) ?_
       refine p_nil ?_
       refine n_then ?_
       refine c_seq ?_
       refine c_seq ?_
       refine c_reg ?_
       refine sy (v := .bool (decide (ahead kind key ((cs.getD i c0).c.k) ((cs.getD i c0).c.key)))) (y_move rfl) ?_
       refine sy (v := .bool (decide (¬ (ahead kind key ((cs.getD i c0).c.k) ((cs.getD i c0).c.key))))) (y_notP rfl) ?_
       refine sy (v := .bool (decide (¬ (ahead kind key ((cs.getD i c0).c.k) ((cs.getD i c0).c.key))))) (y_move rfl) ?_
       by_cases hp58 : ¬ (ahead kind key ((cs.getD i c0).c.k) ((cs.getD i c0).c.key))
       ·
        refine gsy (v := .bool (decide ((i + 1) = cs.length))) (gv_of (t := 96) rfl rfl rfl) (decide_eq_true hp58) (y_move rfl) ?_
        refine gsy (v := .bool (decide ((i + 1) = cs.length))) (gv_of (t := 96) rfl rfl rfl) (decide_eq_true hp58) (y_move rfl) ?_
        refine gsy (v := .bool (decide (¬ (ahead ((cs.getD (i + 1) c0).c.k) ((cs.getD (i + 1) c0).c.key) kind key)))) (gv_of (t := 98) rfl rfl rfl) (decide_eq_false hc52) (y_move rfl) ?_
        refine gsy (v := .bool (decide (¬ (ahead ((cs.getD (i + 1) c0).c.k) ((cs.getD (i + 1) c0).c.key) kind key)))) (gv_of (t := 98) rfl rfl rfl) (decide_eq_false hc52) (y_move rfl) ?_
        by_cases hp59 : ¬ (ahead ((cs.getD (i + 1) c0).c.k) ((cs.getD (i + 1) c0).c.key) kind key)
        ·
         refine gsy (v := v0) (gv_of (t := 100) rfl rfl rfl) (decide_eq_true hp59) (y_move s0_25) ?_
         refine gsy (v := I ((i : Nat) : Int)) (gv_of (t := 100) rfl rfl rfl) (decide_eq_true hp59) (y_move s11_25) ?_
         refine gsy (v := I ((i + 1 : Nat) : Int)) (gv_of (t := 100) rfl rfl rfl) (decide_eq_true hp59) (n_add (a := i) (b := 1) rfl rfl (by omega)) ?_
         refine gsy (v := Ad (sp (v0)) ((i + 1) * 3)) (gv_of (t := 100) rfl rfl rfl) (decide_eq_true hp59) (y_ixR (m := i + 1) Try.underlying38 sz48 (hC.st H57).rd (by decide) rfl rfl rfl (by omega)) ?_
         refine gsy (v := Ad (sp (v0)) (((i + 1) * 3) + 0)) (gv_of (t := 100) rfl rfl rfl) (decide_eq_true hp59) (y_fld Try.underlying48 rfl rfl sz3 (by decide) rfl) ?_
         refine gsy (v := I ((cs.getD (i + 1) c0).c.k)) (gv_of (t := 100) rfl rfl rfl) (decide_eq_true hp59) (y_load sc3 rfl ((hC.st H57).rd.cell _ _ (flat3_get (i := i + 1) (j := 0) (d := c0) (by omega) rfl))) ?_
         refine gsy (v := I (kind)) (gv_of (t := 100) rfl rfl rfl) (decide_eq_true hp59) (y_move s1_25) ?_
         refine gsy (v := .bool (decide (((cs.getD (i + 1) c0).c.k) = kind))) (gv_of (t := 100) rfl rfl rfl) (decide_eq_true hp59) (y_eqlK (i := ((cs.getD (i + 1) c0).c.k)) (j := kind) rfl rfl) ?_
         refine gsy (v := .bool (decide (((cs.getD (i + 1) c0).c.k) = kind))) (gv_of (t := 100) rfl rfl rfl) (decide_eq_true hp59) (y_move rfl) ?_
         by_cases hp60 : ((cs.getD (i + 1) c0).c.k) = kind
         ·
          refine gsy (v := v0) (gv_of (t := 109) rfl rfl rfl) (decide_eq_true hp60) (y_move s0_25) ?_
          refine gsy (v := I ((i : Nat) : Int)) (gv_of (t := 109) rfl rfl rfl) (decide_eq_true hp60) (y_move s11_25) ?_
          refine gsy (v := I ((i + 1 : Nat) : Int)) (gv_of (t := 109) rfl rfl rfl) (decide_eq_true hp60) (n_add (a := i) (b := 1) rfl rfl (by omega)) ?_
          refine gsy (v := Ad (sp (v0)) ((i + 1) * 3)) (gv_of (t := 109) rfl rfl rfl) (decide_eq_true hp60) (y_ixR (m := i + 1) Try.underlying38 sz48 (hC.st H57).rd (by decide) rfl rfl rfl (by omega)) ?_
          refine gsy (v := Ad (sp (v0)) (((i + 1) * 3) + 1)) (gv_of (t := 109) rfl rfl rfl) (decide_eq_true hp60) (y_fld Try.underlying48 rfl rfl sz9 (by decide) rfl) ?_
          refine gsy (v := .string (bst ((cs.getD (i + 1) c0).c.key))) (gv_of (t := 109) rfl rfl rfl) (decide_eq_true hp60) (y_load sc9 rfl ((hC.st H57).rd.cell _ _ (flat3_get (i := i + 1) (j := 1) (d := c0) (by omega) rfl))) ?_
          refine gsy (v := .string (bst key)) (gv_of (t := 109) rfl rfl rfl) (decide_eq_true hp60) (y_move s2_25) ?_
          refine gsy (v := .bool (decide (((cs.getD (i + 1) c0).c.key) = key))) (gv_of (t := 109) rfl rfl rfl) (decide_eq_true hp60) (y_eqlS (a := (cs.getD (i + 1) c0).c.key) (b := key) rfl rfl) ?_
          refine gsy (v := .bool (decide (((cs.getD (i + 1) c0).c.key) = key))) (gv_of (t := 100) rfl rfl rfl) (decide_eq_true hp59) (y_pickT rfl (decide_eq_true hp60) rfl) ?_
          refine gsy (v := .bool (decide (¬ (((cs.getD (i + 1) c0).c.key) = key)))) (gv_of (t := 100) rfl rfl rfl) (decide_eq_true hp59) (y_notP rfl) ?_
          refine gsy (v := .bool (decide (¬ (((cs.getD (i + 1) c0).c.key) = key)))) (gv_of (t := 98) rfl rfl rfl) (decide_eq_false hc52) (y_pickT rfl (decide_eq_true hp59) rfl) ?_
          refine gsy (v := .bool (decide (¬ (((cs.getD (i + 1) c0).c.key) = key)))) (gv_of (t := 96) rfl rfl rfl) (decide_eq_true hp58) (y_pickF rfl (decide_eq_false hc52) rfl) ?_
          refine sy (v := .bool (decide (¬ (((cs.getD (i + 1) c0).c.key) = key)))) (y_pickT rfl (decide_eq_true hp58) rfl) ?_
          refine c_nil ?_
          refine n_then ?_
          refine c_if rfl (fun hc61 => ?_) (fun hc61 => ?_)
          ·
           refine drawSub (.step 0 0 (.step 0 1 (.step 0 2 (.step 0 3 (.step 1 4 (.step 1 5 (.step 1 6 (.step 2 7 (.step 2 8 .nil))))))))) mixed H57 (fun _ h => h.drop) (by kernel_rfl) (by kernel_rfl) (by kernel_rfl) ?_
           intro w62 H63
           refine pt (v := Ad (bs g16) (0 + 1)) rfl (fun wS HS => y_fld Try.underlying41 rfl rfl sz39 (by decide) s10_25) ?_
           refine pt (v := lv) rfl (fun wS HS => y_load sc39 rfl (HS.cell 1 rfl rfl)) ?_
           refine pt (v := v0) rfl (fun wS HS => y_move s0_25) ?_
           refine pt (v := I ((i : Nat) : Int)) rfl (fun wS HS => y_move s11_25) ?_
           refine pl rfl (ow_call fn103 rfl (leafOf_c v0 cs i _ (hC.st H63).nil (by omega) hle) ⟨rfl, rfl, trivial⟩) ?_
           rintro _ w66 ⟨f64, E65, rfl, he68, hf69, H67⟩
           have H70 : St w _ [_, _, _, _, _] w66 := H63.app H67
           have H71 : St w _ [_, _, _, _, _] w66 := H70.foc 4 rfl rfl
           have H72 : St w _ [_, _, _, _, _] w66 := H71.foc 4 rfl rfl
           have H73 : St w _ [_, _, _, _, _] w66 := H72.foc 4 rfl rfl
           have H74 : St w _ [_, _, _] w66 := H73.take 3 rfl
           refine ⟨H74, ?_⟩
           refine pl rfl (ow_buildSlice (pv := [(0, .agg ([I f64.n, I f64.cell.c.k, .string (bst f64.cell.c.key), f64.cell.v, f64.pv]).toArray)]) (us := [I (f64.n), I (f64.cell.c.k), .string (bst f64.cell.c.key), f64.cell.v, f64.pv]) Try.underlying39 sz74 zr74 H70 ⟨⟨rfl, rfl⟩, trivial⟩ (by decide) (by kernel_rfl)) ?_
           rintro _ w76 ⟨g75, rfl, H77⟩
           have H78 : St w _ [_, _, _, _, _, _] w76 := H77.foc 5 rfl rfl
           have H79 : St w _ [_, _, _, _, _, _] w76 := H78.foc 5 rfl rfl
           have H80 : St w _ [_, _, _, _, _, _] w76 := H79.foc 5 rfl rfl
           have H81 : St w _ [_, _, _] w76 := H80.take 3 rfl
           refine ⟨H81, ?_⟩
           have H87 : St w _ [_, _, _, _, _, _] w76 := H77.foc 2 rfl rfl
           refine pl rfl (ow_append (m := 1) (news := [I (f64.n), I (f64.cell.c.k), .string (bst f64.cell.c.key), f64.cell.v, f64.pv]) Try.underlying39 sz74 zr74 bt74 rfl ho H87 rfl rfl (((H87.rd (n := 1) (s := 5) (cap := 1) 1 rfl (by simp) ⟨Nat.le_refl _, by simp [maxLen]⟩).src Try.underlying39 (by intro u hu; simp only [List.mem_cons, List.not_mem_nil, or_false] at hu; rcases hu with rfl | rfl | rfl | rfl | rfl <;> first | rfl | exact Rd.one (LeafP.lr hf69 (H87.foc 2 rfl rfl)).cell.1 | exact Rd.one (LeafP.lr hf69 (H87.foc 2 rfl rfl)).rd))) (by omega) (by omega)) ?_
           rintro v83 w84 ⟨E82, ho86', H85⟩
           have ho86 : OS 74 5 v83 (ls ++ [f64]).length ((ls ++ [f64]).flatMap Lf.cs) E82 := by rw [flat5_snoc, List.length_append]; exact ho86'
           have H88 : St w _ [_, _, _, _, _, _] w84 := H85.foc 5 rfl rfl
           have H89 : St w _ [_, _, _, _, _, _] w84 := H88.foc 5 rfl rfl
           have H90 : St w _ [_, _, _, _, _, _] w84 := H89.foc 5 rfl rfl
           have H91 : St w _ [_, _, _] w84 := H90.take 3 rfl
           refine ⟨H91, ?_⟩
           refine tly (v := Ad (bs g16) (0 + 1)) rfl (y_fld Try.underlying41 rfl rfl sz39 (by decide) s10_25) ?_
           have H92 : St w _ [_, _, _, _, _, _] w84 := H85.foc 4 rfl rfl
           refine t0 rfl (ow_store (j := 1) H92 sz39 rfl rfl (Rd.one (ho86.rd H92 1 rfl)) rfl (by simp)) ?_
           rintro _ w93 H94'
           have H94 : St w _ [[(g16, Rw 41 ([I ((cs.length : Nat) : Int), v83]))], _, _, _, _, _] w93 := H94'
           refine p_nil ?_
           refine n_then ?_
           refine c_seq ?_
           refine c_reg ?_
           refine sy (v := .bool (decide (ahead kind key ((cs.getD i c0).c.k) ((cs.getD i c0).c.key)))) (y_move rfl) ?_
           refine c_nil ?_
           refine n_then ?_
           refine c_f rfl (decide_eq_false hp58) ?_
           refine wp_skip ?_
           refine n_block (n_then ?_)
           refine c_reg ?_
           refine sy (v := I ((i : Nat) : Int)) (y_move s11_25) ?_
           refine sy (v := I ((i + 1 : Nat) : Int)) (n_add (a := i) (b := 1) rfl rfl (by omega)) ?_
           refine sy (v := I ((i + 1 : Nat) : Int)) (y_assign rfl) ?_
           refine c_nil ?_
           have H95 : St w _ [_, _, _, _, _, _] w93 := H94.foc 5 rfl rfl
           have H96 : St w _ [_, _, _, _, _, _] w93 := H95.foc 3 rfl rfl
           have H97 : St w _ [_, _, _, _, _, _] w93 := H96.foc 3 rfl rfl
           have H98 : St w _ [_, _, _, _, _, _] w93 := H97.foc 3 rfl rfl
           have H99 : St w _ [_, _, _, _, _, _] w93 := H98.foc 5 rfl rfl
           have H100 : St w _ [_, _, _, _, _, _] w93 := H99.foc 5 rfl rfl
           obtain ⟨H101, -⟩ := H100.join
           have H102 : St w _ [_, _, _, _, _] w93 := H101.foc 4 rfl rfl
           have H103 : St w _ [_, _, _, _, _] w93 := H102.foc 2 rfl rfl
           have H104 : St w _ [_, _, _, _, _] w93 := H103.foc 2 rfl rfl
           have H105 : St w _ [_, _, _, _, _] w93 := H104.foc 3 rfl rfl
           have H106 : St w _ [_, _, _, _] w93 := H105.take 4 rfl
           have : ¬ 0 < plcI kind key cs i := fun hh => hp58 (plc_pos.1 hh)
           have : plcI kind key cs i ≠ 0 := fun hh => hc28 (plc_zero.1 hh).2
           have : ¬ plcI kind key cs (i + 1) < 0 := fun hh => hp59 (plc_neg.1 hh)
           have : plcI kind key cs (i + 1) ≠ 0 := fun hh => hc61 (plc_zero.1 hh).2
           have hlt : plcI kind key cs i < 0 := by omega
           have hls0 : ls = [] := by
            have h := hm
            rw [mid_no (by omega)] at h
            exact List.map_eq_nil_iff.1 h
           exact lp_next (i + 1) ⟨v83, E82, (F ++ E65), (ls ++ [f64]), s0_25, s1_25, s2_25, s6_25, s10_25, rfl, (by omega), (fun j hj => by
            by_cases e : j = i
            · rw [e]; exact hlt
            · exact hz j (by omega)), ho86, (LeafsP.snoc hf69 hF), (by rw [hls0]; simp), (by rw [mid_yes (by omega), hls0]; show [f64.e] = _; rw [he68]; rfl), H106⟩ (by show _ < _; omega)
          ·
           refine wp_skip ?_
           refine n_then ?_
           refine c_seq ?_
           refine c_reg ?_
           refine sy (v := .bool (decide (ahead kind key ((cs.getD i c0).c.k) ((cs.getD i c0).c.key)))) (y_move rfl) ?_
           refine c_nil ?_
           refine n_then ?_
           refine c_f rfl (decide_eq_false hp58) ?_
           refine wp_skip ?_
           refine n_block (n_then ?_)
           refine c_reg ?_
           refine sy (v := I ((i : Nat) : Int)) (y_move s11_25) ?_
           refine sy (v := I ((i + 1 : Nat) : Int)) (n_add (a := i) (b := 1) rfl rfl (by omega)) ?_
           refine sy (v := I ((i + 1 : Nat) : Int)) (y_assign rfl) ?_
           refine c_nil ?_
           have : ¬ 0 < plcI kind key cs i := fun hh => hp58 (plc_pos.1 hh)
           have : plcI kind key cs i ≠ 0 := fun hh => hc28 (plc_zero.1 hh).2
           have : ¬ plcI kind key cs (i + 1) < 0 := fun hh => hp59 (plc_neg.1 hh)
           have : plcI kind key cs (i + 1) = 0 := plc_zero.2 ⟨hp60, (Classical.not_not.1 hc61)⟩
           have hlt : plcI kind key cs i < 0 := by omega
           have hls0 : ls = [] := by
            have h := hm
            rw [mid_no (by omega)] at h
            exact List.map_eq_nil_iff.1 h
           exact lp_next (i + 1) ⟨lv, E, F, ls, s0_25, s1_25, s2_25, s6_25, s10_25, rfl, (by omega), (fun j hj => by
            by_cases e : j = i
            · rw [e]; exact hlt
            · exact hz j (by omega)), ho, hF, (by omega), (by rw [mid_no (by omega), hls0]; rfl), H57⟩ (by show _ < _; omega)
         ·
          refine gno (gv_of (t := 109) rfl rfl rfl) (decide_eq_false hp60) ?_
          refine gno (gv_of (t := 109) rfl rfl rfl) (decide_eq_false hp60) ?_
          refine gno (gv_of (t := 109) rfl rfl rfl) (decide_eq_false hp60) ?_
          refine gno (gv_of (t := 109) rfl rfl rfl) (decide_eq_false hp60) ?_
          refine gno (gv_of (t := 109) rfl rfl rfl) (decide_eq_false hp60) ?_
          refine gno (gv_of (t := 109) rfl rfl rfl) (decide_eq_false hp60) ?_
          refine gno (gv_of (t := 109) rfl rfl rfl) (decide_eq_false hp60) ?_
          refine gno (gv_of (t := 109) rfl rfl rfl) (decide_eq_false hp60) ?_
          refine gsy (v := .bool (false)) (gv_of (t := 100) rfl rfl rfl) (decide_eq_true hp59) (y_pickF (v := .bool (false)) rfl (decide_eq_false hp60) rfl) ?_
          refine gsy (v := .bool (true)) (gv_of (t := 100) rfl rfl rfl) (decide_eq_true hp59) (y_not (p := false) rfl) ?_
          refine gsy (v := .bool (true)) (gv_of (t := 98) rfl rfl rfl) (decide_eq_false hc52) (y_pickT rfl (decide_eq_true hp59) rfl) ?_
          refine gsy (v := .bool (true)) (gv_of (t := 96) rfl rfl rfl) (decide_eq_true hp58) (y_pickF rfl (decide_eq_false hc52) rfl) ?_
          refine sy (v := .bool (true)) (y_pickT rfl (decide_eq_true hp58) rfl) ?_
          refine c_nil ?_
          refine n_then ?_
          refine c_t rfl rfl ?_
          refine drawSub (.step 0 0 (.step 0 1 (.step 0 2 (.step 0 3 (.step 1 4 (.step 1 5 (.step 1 6 (.step 2 7 (.step 2 8 .nil))))))))) mixed H57 (fun _ h => h.drop) (by kernel_rfl) (by kernel_rfl) (by kernel_rfl) ?_
          intro w107 H108
          refine pt (v := Ad (bs g16) (0 + 1)) rfl (fun wS HS => y_fld Try.underlying41 rfl rfl sz39 (by decide) s10_25) ?_
          refine pt (v := lv) rfl (fun wS HS => y_load sc39 rfl (HS.cell 1 rfl rfl)) ?_
          refine pt (v := v0) rfl (fun wS HS => y_move s0_25) ?_
          refine pt (v := I ((i : Nat) : Int)) rfl (fun wS HS => y_move s11_25) ?_
          refine pl rfl (ow_call fn103 rfl (leafOf_c v0 cs i _ (hC.st H108).nil (by omega) hle) ⟨rfl, rfl, trivial⟩) ?_
          rintro _ w111 ⟨f109, E110, rfl, he113, hf114, H112⟩
          have H115 : St w _ [_, _, _, _, _] w111 := H108.app H112
          have H116 : St w _ [_, _, _, _, _] w111 := H115.foc 4 rfl rfl
          have H117 : St w _ [_, _, _, _, _] w111 := H116.foc 4 rfl rfl
          have H118 : St w _ [_, _, _, _, _] w111 := H117.foc 4 rfl rfl
          have H119 : St w _ [_, _, _] w111 := H118.take 3 rfl
          refine ⟨H119, ?_⟩
          refine pl rfl (ow_buildSlice (pv := [(0, .agg ([I f109.n, I f109.cell.c.k, .string (bst f109.cell.c.key), f109.cell.v, f109.pv]).toArray)]) (us := [I (f109.n), I (f109.cell.c.k), .string (bst f109.cell.c.key), f109.cell.v, f109.pv]) Try.underlying39 sz74 zr74 H115 ⟨⟨rfl, rfl⟩, trivial⟩ (by decide) (by kernel_rfl)) ?_
          rintro _ w121 ⟨g120, rfl, H122⟩
          have H123 : St w _ [_, _, _, _, _, _] w121 := H122.foc 5 rfl rfl
          have H124 : St w _ [_, _, _, _, _, _] w121 := H123.foc 5 rfl rfl
          have H125 : St w _ [_, _, _, _, _, _] w121 := H124.foc 5 rfl rfl
          have H126 : St w _ [_, _, _] w121 := H125.take 3 rfl
          refine ⟨H126, ?_⟩
          have H132 : St w _ [_, _, _, _, _, _] w121 := H122.foc 2 rfl rfl
          refine pl rfl (ow_append (m := 1) (news := [I (f109.n), I (f109.cell.c.k), .string (bst f109.cell.c.key), f109.cell.v, f109.pv]) Try.underlying39 sz74 zr74 bt74 rfl ho H132 rfl rfl (((H132.rd (n := 1) (s := 5) (cap := 1) 1 rfl (by simp) ⟨Nat.le_refl _, by simp [maxLen]⟩).src Try.underlying39 (by intro u hu; simp only [List.mem_cons, List.not_mem_nil, or_false] at hu; rcases hu with rfl | rfl | rfl | rfl | rfl <;> first | rfl | exact Rd.one (LeafP.lr hf114 (H132.foc 2 rfl rfl)).cell.1 | exact Rd.one (LeafP.lr hf114 (H132.foc 2 rfl rfl)).rd))) (by omega) (by omega)) ?_
          rintro v128 w129 ⟨E127, ho131', H130⟩
          have ho131 : OS 74 5 v128 (ls ++ [f109]).length ((ls ++ [f109]).flatMap Lf.cs) E127 := by rw [flat5_snoc, List.length_append]; exact ho131'
          have H133 : St w _ [_, _, _, _, _, _] w129 := H130.foc 5 rfl rfl
          have H134 : St w _ [_, _, _, _, _, _] w129 := H133.foc 5 rfl rfl
          have H135 : St w _ [_, _, _, _, _, _] w129 := H134.foc 5 rfl rfl
          have H136 : St w _ [_, _, _] w129 := H135.take 3 rfl
          refine ⟨H136, ?_⟩
          refine tly (v := Ad (bs g16) (0 + 1)) rfl (y_fld Try.underlying41 rfl rfl sz39 (by decide) s10_25) ?_
          have H137 : St w _ [_, _, _, _, _, _] w129 := H130.foc 4 rfl rfl
          refine t0 rfl (ow_store (j := 1) H137 sz39 rfl rfl (Rd.one (ho131.rd H137 1 rfl)) rfl (by simp)) ?_
          rintro _ w138 H139'
          have H139 : St w _ [[(g16, Rw 41 ([I ((cs.length : Nat) : Int), v128]))], _, _, _, _, _] w138 := H139'
          refine p_nil ?_
          refine n_then ?_
          refine c_seq ?_
          refine c_reg ?_
          refine sy (v := .bool (decide (ahead kind key ((cs.getD i c0).c.k) ((cs.getD i c0).c.key)))) (y_move rfl) ?_
          refine c_nil ?_
          refine n_then ?_
          refine c_f rfl (decide_eq_false hp58) ?_
          refine wp_skip ?_
          refine n_block (n_then ?_)
          refine c_reg ?_
          refine sy (v := I ((i : Nat) : Int)) (y_move s11_25) ?_
          refine sy (v := I ((i + 1 : Nat) : Int)) (n_add (a := i) (b := 1) rfl rfl (by omega)) ?_
          refine sy (v := I ((i + 1 : Nat) : Int)) (y_assign rfl) ?_
          refine c_nil ?_
          have H140 : St w _ [_, _, _, _, _, _] w138 := H139.foc 5 rfl rfl
          have H141 : St w _ [_, _, _, _, _, _] w138 := H140.foc 3 rfl rfl
          have H142 : St w _ [_, _, _, _, _, _] w138 := H141.foc 3 rfl rfl
          have H143 : St w _ [_, _, _, _, _, _] w138 := H142.foc 3 rfl rfl
          have H144 : St w _ [_, _, _, _, _, _] w138 := H143.foc 5 rfl rfl
          have H145 : St w _ [_, _, _, _, _, _] w138 := H144.foc 5 rfl rfl
          obtain ⟨H146, -⟩ := H145.join
          have H147 : St w _ [_, _, _, _, _] w138 := H146.foc 4 rfl rfl
          have H148 : St w _ [_, _, _, _, _] w138 := H147.foc 2 rfl rfl
          have H149 : St w _ [_, _, _, _, _] w138 := H148.foc 2 rfl rfl
          have H150 : St w _ [_, _, _, _, _] w138 := H149.foc 3 rfl rfl
          have H151 : St w _ [_, _, _, _] w138 := H150.take 4 rfl
          have : ¬ 0 < plcI kind key cs i := fun hh => hp58 (plc_pos.1 hh)
          have : plcI kind key cs i ≠ 0 := fun hh => hc28 (plc_zero.1 hh).2
          have : ¬ plcI kind key cs (i + 1) < 0 := fun hh => hp59 (plc_neg.1 hh)
          have : plcI kind key cs (i + 1) ≠ 0 := fun hh => hp60 (plc_zero.1 hh).1
          have hlt : plcI kind key cs i < 0 := by omega
          have hls0 : ls = [] := by
           have h := hm
           rw [mid_no (by omega)] at h
           exact List.map_eq_nil_iff.1 h
          exact lp_next (i + 1) ⟨v128, E127, (F ++ E110), (ls ++ [f109]), s0_25, s1_25, s2_25, s6_25, s10_25, rfl, (by omega), (fun j hj => by
           by_cases e : j = i
           · rw [e]; exact hlt
           · exact hz j (by omega)), ho131, (LeafsP.snoc hf114 hF), (by rw [hls0]; simp), (by rw [mid_yes (by omega), hls0]; show [f109.e] = _; rw [he113]; rfl), H151⟩ (by show _ < _; omega)
        ·
         refine gno (gv_of (t := 100) rfl rfl rfl) (decide_eq_false hp59) ?_
         refine gno (gv_of (t := 100) rfl rfl rfl) (decide_eq_false hp59) ?_
         refine gno (gv_of (t := 100) rfl rfl rfl) (decide_eq_false hp59) ?_
         refine gno (gv_of (t := 100) rfl rfl rfl) (decide_eq_false hp59) ?_
         refine gno (gv_of (t := 100) rfl rfl rfl) (decide_eq_false hp59) ?_
         refine gno (gv_of (t := 100) rfl rfl rfl) (decide_eq_false hp59) ?_
         refine gno (gv_of (t := 100) rfl rfl rfl) (decide_eq_false hp59) ?_
         refine gno (gv_of (t := 100) rfl rfl rfl) (decide_eq_false hp59) ?_
         refine gno (gv_of (t := 100) rfl rfl rfl) (decide_eq_false hp59) ?_
         refine gun (gv_of (t := 109) rfl rfl rfl) ?_
         refine gun (gv_of (t := 109) rfl rfl rfl) ?_
         refine gun (gv_of (t := 109) rfl rfl rfl) ?_
         refine gun (gv_of (t := 109) rfl rfl rfl) ?_
         refine gun (gv_of (t := 109) rfl rfl rfl) ?_
         refine gun (gv_of (t := 109) rfl rfl rfl) ?_
         refine gun (gv_of (t := 109) rfl rfl rfl) ?_
         refine gun (gv_of (t := 109) rfl rfl rfl) ?_
         refine gno (gv_of (t := 100) rfl rfl rfl) (decide_eq_false hp59) ?_
         refine gno (gv_of (t := 100) rfl rfl rfl) (decide_eq_false hp59) ?_
         refine gsy (v := .bool (false)) (gv_of (t := 98) rfl rfl rfl) (decide_eq_false hc52) (y_pickF (v := .bool (false)) rfl (decide_eq_false hp59) rfl) ?_
         refine gsy (v := .bool (false)) (gv_of (t := 96) rfl rfl rfl) (decide_eq_true hp58) (y_pickF rfl (decide_eq_false hc52) rfl) ?_
         refine sy (v := .bool (false)) (y_pickT rfl (decide_eq_true hp58) rfl) ?_
         refine c_nil ?_
         refine n_then ?_
         refine c_f rfl rfl ?_
         refine wp_skip ?_
         refine n_then ?_
         refine c_seq ?_
         refine c_reg ?_
         refine sy (v := .bool (decide (ahead kind key ((cs.getD i c0).c.k) ((cs.getD i c0).c.key)))) (y_move rfl) ?_
         refine c_nil ?_
         refine n_then ?_
         refine c_f rfl (decide_eq_false hp58) ?_
         refine wp_skip ?_
         refine n_block (n_then ?_)
         refine c_reg ?_
         refine sy (v := I ((i : Nat) : Int)) (y_move s11_25) ?_
         refine sy (v := I ((i + 1 : Nat) : Int)) (n_add (a := i) (b := 1) rfl rfl (by omega)) ?_
         refine sy (v := I ((i + 1 : Nat) : Int)) (y_assign rfl) ?_
         refine c_nil ?_
         have : ¬ 0 < plcI kind key cs i := fun hh => hp58 (plc_pos.1 hh)
         have : plcI kind key cs i ≠ 0 := fun hh => hc28 (plc_zero.1 hh).2
         have : plcI kind key cs (i + 1) < 0 := plc_neg.2 (Classical.not_not.1 hp59)
         have hlt : plcI kind key cs i < 0 := by omega
         have hls0 : ls = [] := by
          have h := hm
          rw [mid_no (by omega)] at h
          exact List.map_eq_nil_iff.1 h
         exact lp_next (i + 1) ⟨lv, E, F, ls, s0_25, s1_25, s2_25, s6_25, s10_25, rfl, (by omega), (fun j hj => by
          by_cases e : j = i
          · rw [e]; exact hlt
          · exact hz j (by omega)), ho, hF, (by omega), (by rw [mid_no (by omega), hls0]; rfl), H57⟩ (by show _ < _; omega)
       ·
        refine gno (gv_of (t := 96) rfl rfl rfl) (decide_eq_false hp58) ?_
        refine gno (gv_of (t := 96) rfl rfl rfl) (decide_eq_false hp58) ?_
        refine gun (gv_of (t := 98) rfl rfl rfl) ?_
        refine gun (gv_of (t := 98) rfl rfl rfl) ?_
        refine gun (gv_of (t := 100) rfl rfl rfl) ?_
        refine gun (gv_of (t := 100) rfl rfl rfl) ?_
        refine gun (gv_of (t := 100) rfl rfl rfl) ?_
        refine gun (gv_of (t := 100) rfl rfl rfl) ?_
        refine gun (gv_of (t := 100) rfl rfl rfl) ?_
        refine gun (gv_of (t := 100) rfl rfl rfl) ?_
        refine gun (gv_of (t := 100) rfl rfl rfl) ?_
        refine gun (gv_of (t := 100) rfl rfl rfl) ?_
        refine gun (gv_of (t := 100) rfl rfl rfl) ?_
        refine gun (gv_of (t := 109) rfl rfl rfl) ?_
        refine gun (gv_of (t := 109) rfl rfl rfl) ?_
        refine gun (gv_of (t := 109) rfl rfl rfl) ?_
        refine gun (gv_of (t := 109) rfl rfl rfl) ?_
        refine gun (gv_of (t := 109) rfl rfl rfl) ?_
        refine gun (gv_of (t := 109) rfl rfl rfl) ?_
        refine gun (gv_of (t := 109) rfl rfl rfl) ?_
        refine gun (gv_of (t := 109) rfl rfl rfl) ?_
        refine gun (gv_of (t := 100) rfl rfl rfl) ?_
        refine gun (gv_of (t := 100) rfl rfl rfl) ?_
        refine gun (gv_of (t := 98) rfl rfl rfl) ?_
        refine gno (gv_of (t := 96) rfl rfl rfl) (decide_eq_false hp58) ?_
        refine sy (v := .bool (false)) (y_pickF (v := .bool (false)) rfl (decide_eq_false hp58) rfl) ?_
        refine c_nil ?_
        refine n_then ?_
        refine c_f rfl rfl ?_
        refine wp_skip ?_
        refine n_then ?_
        refine c_seq ?_
        refine c_reg ?_
        refine sy (v := .bool (decide (ahead kind key ((cs.getD i c0).c.k) ((cs.getD i c0).c.key)))) (y_move rfl) ?_
        refine c_nil ?_
        refine n_then ?_
        refine c_t rfl (decide_eq_true (Classical.not_not.1 hp58)) ?_
        refine c_seq ?_
        refine drawSub (.step 0 0 (.step 0 1 (.step 0 2 (.step 0 3 (.step 1 4 (.step 1 5 (.step 1 6 (.step 2 7 (.step 2 8 .nil))))))))) mixed H57 (fun _ h => h.drop) (by kernel_rfl) (by kernel_rfl) (by kernel_rfl) ?_
        intro w152 H153
        refine pt (v := Ad (bs g16) (0 + 1)) rfl (fun wS HS => y_fld Try.underlying41 rfl rfl sz39 (by decide) s10_25) ?_
        refine pt (v := lv) rfl (fun wS HS => y_load sc39 rfl (HS.cell 1 rfl rfl)) ?_
        refine pt (v := v0) rfl (fun wS HS => y_move s0_25) ?_
        refine pt (v := I ((i : Nat) : Int)) rfl (fun wS HS => y_move s11_25) ?_
        refine pl rfl (ow_call fn103 rfl (leafOf_c v0 cs i _ (hC.st H153).nil (by omega) hle) ⟨rfl, rfl, trivial⟩) ?_
        rintro _ w156 ⟨f154, E155, rfl, he158, hf159, H157⟩
        have H160 : St w _ [_, _, _, _, _] w156 := H153.app H157
        have H161 : St w _ [_, _, _, _, _] w156 := H160.foc 4 rfl rfl
        have H162 : St w _ [_, _, _, _, _] w156 := H161.foc 4 rfl rfl
        have H163 : St w _ [_, _, _, _, _] w156 := H162.foc 4 rfl rfl
        have H164 : St w _ [_, _, _] w156 := H163.take 3 rfl
        refine ⟨H164, ?_⟩
        refine pl rfl (ow_buildSlice (pv := [(0, .agg ([I f154.n, I f154.cell.c.k, .string (bst f154.cell.c.key), f154.cell.v, f154.pv]).toArray)]) (us := [I (f154.n), I (f154.cell.c.k), .string (bst f154.cell.c.key), f154.cell.v, f154.pv]) Try.underlying39 sz74 zr74 H160 ⟨⟨rfl, rfl⟩, trivial⟩ (by decide) (by kernel_rfl)) ?_
        rintro _ w166 ⟨g165, rfl, H167⟩
        have H168 : St w _ [_, _, _, _, _, _] w166 := H167.foc 5 rfl rfl
        have H169 : St w _ [_, _, _, _, _, _] w166 := H168.foc 5 rfl rfl
        have H170 : St w _ [_, _, _, _, _, _] w166 := H169.foc 5 rfl rfl
        have H171 : St w _ [_, _, _] w166 := H170.take 3 rfl
        refine ⟨H171, ?_⟩
        have H177 : St w _ [_, _, _, _, _, _] w166 := H167.foc 2 rfl rfl
        refine pl rfl (ow_append (m := 1) (news := [I (f154.n), I (f154.cell.c.k), .string (bst f154.cell.c.key), f154.cell.v, f154.pv]) Try.underlying39 sz74 zr74 bt74 rfl ho H177 rfl rfl (((H177.rd (n := 1) (s := 5) (cap := 1) 1 rfl (by simp) ⟨Nat.le_refl _, by simp [maxLen]⟩).src Try.underlying39 (by intro u hu; simp only [List.mem_cons, List.not_mem_nil, or_false] at hu; rcases hu with rfl | rfl | rfl | rfl | rfl <;> first | rfl | exact Rd.one (LeafP.lr hf159 (H177.foc 2 rfl rfl)).cell.1 | exact Rd.one (LeafP.lr hf159 (H177.foc 2 rfl rfl)).rd))) (by omega) (by omega)) ?_
        rintro v173 w174 ⟨E172, ho176', H175⟩
        have ho176 : OS 74 5 v173 (ls ++ [f154]).length ((ls ++ [f154]).flatMap Lf.cs) E172 := by rw [flat5_snoc, List.length_append]; exact ho176'
        have H178 : St w _ [_, _, _, _, _, _] w174 := H175.foc 5 rfl rfl
        have H179 : St w _ [_, _, _, _, _, _] w174 := H178.foc 5 rfl rfl
        have H180 : St w _ [_, _, _, _, _, _] w174 := H179.foc 5 rfl rfl
        have H181 : St w _ [_, _, _] w174 := H180.take 3 rfl
        refine ⟨H181, ?_⟩
        refine tly (v := Ad (bs g16) (0 + 1)) rfl (y_fld Try.underlying41 rfl rfl sz39 (by decide) s10_25) ?_
        have H182 : St w _ [_, _, _, _, _, _] w174 := H175.foc 4 rfl rfl
        refine t0 rfl (ow_store (j := 1) H182 sz39 rfl rfl (Rd.one (ho176.rd H182 1 rfl)) rfl (by simp)) ?_
        rintro _ w183 H184'
        have H184 : St w _ [[(g16, Rw 41 ([I ((cs.length : Nat) : Int), v173]))], _, _, _, _, _] w183 := H184'
        refine p_nil ?_
        refine n_then ?_
        refine c_seq ?_
        refine c_reg ?_
        refine sy (v := .agg ([I ((cs.length : Nat) : Int), v173]).toArray) (y_loadA (us := [I ((cs.length : Nat) : Int), v173]) ag41 sz41 rfl s10_25 (fun j u hu => (H184.cell 0 rfl (by rw [Nat.zero_add]; exact hu)))) ?_
        have H185 : St w _ [_, _, _, _, _, _] w183 := H184.foc 5 rfl rfl
        refine s0 (ow_storeW (us := [I ((cs.length : Nat) : Int), v173]) H185 sz41 rfl s6_25 rfl (by intro u hu; simp only [List.mem_cons, List.not_mem_nil, or_false] at hu; rcases hu with rfl | rfl <;> first | rfl | exact Rd.one (ho176.rd H185 2 rfl)) (by simp [*])) ?_
        rintro _ w186 H187'
        have H187 : St w _ [[(g1, Rw 41 ([I ((cs.length : Nat) : Int), v173]))], _, _, _, _, _] w186 := H187'
        refine sy (v := I ((0 : Nat) : Int)) (y_assign (v := I ((0 : Nat) : Int)) rfl) ?_
        refine c_nil ?_
        refine n_then ?_
        refine wp_ret ?_
        refine r_block (r_then (r_then (r_block (r_then ?_))))
        refine e_r2 Try.results46 (rv_b H187 (i := 0) rfl ag41 sz41 rfl s6_25) (rv_t rfl) ?_
        have : 0 < plcI kind key cs i := plc_pos.2 (Classical.not_not.1 hp58)
        have : plcI kind key cs i ≠ 0 := fun hh => hc28 (plc_zero.1 hh).2
        have H188 : St w _ [_, _, _, _, _, _] w186 := H187.foc 3 rfl rfl
        have H189 : St w _ [_, _, _, _, _, _] w186 := H188.foc 3 rfl rfl
        have H190 : St w _ [_, _, _, _, _, _] w186 := H189.foc 3 rfl rfl
        have H191 : St w _ [_, _, _, _, _, _] w186 := H190.foc 3 rfl rfl
        have H192 : St w _ [_, _, _, _, _, _] w186 := H191.foc 5 rfl rfl
        have H193 : St w _ [_, _, _, _, _, _] w186 := H192.foc 5 rfl rfl
        obtain ⟨H194, -⟩ := H193.join
        have H195 : St w _ [_, _, _, _, _] w186 := H194.foc 3 rfl rfl
        have H196 : St w _ [_, _, _, _, _] w186 := H195.foc 1 rfl rfl
        have H197 : St w _ [_, _] w186 := H196.take 2 rfl
        obtain ⟨H198, hd199⟩ := H197.join
        exact ⟨_, rfl, _, _, (ls ++ [f154]), 0, _, rfl, .inr (.inr ⟨hkm, hwr, (List.length_map _).symm, rfl, i, isP_mk hi hz (fun _ => by omega), (by rw [at_pos (by omega) (by omega), ← hm, PE, PE, List.map_append]; show _ ++ [f154.e] = _; rw [he158])⟩), ⟨_, _, rfl, ho176, (LeafsP.snoc hf159 hF), hd199, by rw [List.length_append, List.length_singleton]; omega⟩, H198⟩
      ·
       refine wp_skip ?_
       refine n_then ?_
       refine c_seq ?_
       refine c_seq ?_
       refine c_reg ?_
       refine sy (v := .bool (decide (ahead kind key ((cs.getD i c0).c.k) ((cs.getD i c0).c.key)))) (y_move rfl) ?_
       refine sy (v := .bool (decide (¬ (ahead kind key ((cs.getD i c0).c.k) ((cs.getD i c0).c.key))))) (y_notP rfl) ?_
       refine sy (v := .bool (decide (¬ (ahead kind key ((cs.getD i c0).c.k) ((cs.getD i c0).c.key))))) (y_move rfl) ?_
       by_cases hp200 : ¬ (ahead kind key ((cs.getD i c0).c.k) ((cs.getD i c0).c.key))
       ·
        refine gsy (v := .bool (decide ((i + 1) = cs.length))) (gv_of (t := 96) rfl rfl rfl) (decide_eq_true hp200) (y_move rfl) ?_
        refine gsy (v := .bool (decide ((i + 1) = cs.length))) (gv_of (t := 96) rfl rfl rfl) (decide_eq_true hp200) (y_move rfl) ?_
        refine gno (gv_of (t := 98) rfl rfl rfl) (decide_eq_true (Classical.not_not.1 hc52)) ?_
        refine gno (gv_of (t := 98) rfl rfl rfl) (decide_eq_true (Classical.not_not.1 hc52)) ?_
        refine gun (gv_of (t := 100) rfl rfl rfl) ?_
        refine gun (gv_of (t := 100) rfl rfl rfl) ?_
        refine gun (gv_of (t := 100) rfl rfl rfl) ?_
        refine gun (gv_of (t := 100) rfl rfl rfl) ?_
        refine gun (gv_of (t := 100) rfl rfl rfl) ?_
        refine gun (gv_of (t := 100) rfl rfl rfl) ?_
        refine gun (gv_of (t := 100) rfl rfl rfl) ?_
        refine gun (gv_of (t := 100) rfl rfl rfl) ?_
        refine gun (gv_of (t := 100) rfl rfl rfl) ?_
        refine gun (gv_of (t := 109) rfl rfl rfl) ?_
        refine gun (gv_of (t := 109) rfl rfl rfl) ?_
        refine gun (gv_of (t := 109) rfl rfl rfl) ?_
        refine gun (gv_of (t := 109) rfl rfl rfl) ?_
        refine gun (gv_of (t := 109) rfl rfl rfl) ?_
        refine gun (gv_of (t := 109) rfl rfl rfl) ?_
        refine gun (gv_of (t := 109) rfl rfl rfl) ?_
        refine gun (gv_of (t := 109) rfl rfl rfl) ?_
        refine gun (gv_of (t := 100) rfl rfl rfl) ?_
        refine gun (gv_of (t := 100) rfl rfl rfl) ?_
        refine gno (gv_of (t := 98) rfl rfl rfl) (decide_eq_true (Classical.not_not.1 hc52)) ?_
        refine gsy (v := .bool (true)) (gv_of (t := 96) rfl rfl rfl) (decide_eq_true hp200) (y_pickT (v := .bool (true)) rfl (decide_eq_true (Classical.not_not.1 hc52)) rfl) ?_
        refine sy (v := .bool (true)) (y_pickT rfl (decide_eq_true hp200) rfl) ?_
        refine c_nil ?_
        refine n_then ?_
        refine c_t rfl rfl ?_
        refine drawSub (.step 0 0 (.step 0 1 (.step 0 2 (.step 0 3 (.step 1 4 (.step 1 5 (.step 1 6 (.step 2 7 (.step 2 8 .nil))))))))) mixed H51 (fun _ h => h.drop) (by kernel_rfl) (by kernel_rfl) (by kernel_rfl) ?_
        intro w201 H202
        refine pt (v := Ad (bs g16) (0 + 1)) rfl (fun wS HS => y_fld Try.underlying41 rfl rfl sz39 (by decide) s10_25) ?_
        refine pt (v := lv) rfl (fun wS HS => y_load sc39 rfl (HS.cell 1 rfl rfl)) ?_
        refine pt (v := v0) rfl (fun wS HS => y_move s0_25) ?_
        refine pt (v := I ((i : Nat) : Int)) rfl (fun wS HS => y_move s11_25) ?_
        refine pl rfl (ow_call fn103 rfl (leafOf_c v0 cs i _ (hC.st H202).nil (by omega) hle) ⟨rfl, rfl, trivial⟩) ?_
        rintro _ w205 ⟨f203, E204, rfl, he207, hf208, H206⟩
        have H209 : St w _ [_, _, _, _, _] w205 := H202.app H206
        have H210 : St w _ [_, _, _, _, _] w205 := H209.foc 4 rfl rfl
        have H211 : St w _ [_, _, _, _, _] w205 := H210.foc 4 rfl rfl
        have H212 : St w _ [_, _, _, _, _] w205 := H211.foc 4 rfl rfl
        have H213 : St w _ [_, _, _] w205 := H212.take 3 rfl
        refine ⟨H213, ?_⟩
        refine pl rfl (ow_buildSlice (pv := [(0, .agg ([I f203.n, I f203.cell.c.k, .string (bst f203.cell.c.key), f203.cell.v, f203.pv]).toArray)]) (us := [I (f203.n), I (f203.cell.c.k), .string (bst f203.cell.c.key), f203.cell.v, f203.pv]) Try.underlying39 sz74 zr74 H209 ⟨⟨rfl, rfl⟩, trivial⟩ (by decide) (by kernel_rfl)) ?_
        rintro _ w215 ⟨g214, rfl, H216⟩
        have H217 : St w _ [_, _, _, _, _, _] w215 := H216.foc 5 rfl rfl
        have H218 : St w _ [_, _, _, _, _, _] w215 := H217.foc 5 rfl rfl
        have H219 : St w _ [_, _, _, _, _, _] w215 := H218.foc 5 rfl rfl
        have H220 : St w _ [_, _, _] w215 := H219.take 3 rfl
        refine ⟨H220, ?_⟩
        have H226 : St w _ [_, _, _, _, _, _] w215 := H216.foc 2 rfl rfl
        refine pl rfl (ow_append (m := 1) (news := [I (f203.n), I (f203.cell.c.k), .string (bst f203.cell.c.key), f203.cell.v, f203.pv]) Try.underlying39 sz74 zr74 bt74 rfl ho H226 rfl rfl (((H226.rd (n := 1) (s := 5) (cap := 1) 1 rfl (by simp) ⟨Nat.le_refl _, by simp [maxLen]⟩).src Try.underlying39 (by intro u hu; simp only [List.mem_cons, List.not_mem_nil, or_false] at hu; rcases hu with rfl | rfl | rfl | rfl | rfl <;> first | rfl | exact Rd.one (LeafP.lr hf208 (H226.foc 2 rfl rfl)).cell.1 | exact Rd.one (LeafP.lr hf208 (H226.foc 2 rfl rfl)).rd))) (by omega) (by omega)) ?_
        rintro v222 w223 ⟨E221, ho225', H224⟩
        have ho225 : OS 74 5 v222 (ls ++ [f203]).length ((ls ++ [f203]).flatMap Lf.cs) E221 := by rw [flat5_snoc, List.length_append]; exact ho225'
        have H227 : St w _ [_, _, _, _, _, _] w223 := H224.foc 5 rfl rfl
        have H228 : St w _ [_, _, _, _, _, _] w223 := H227.foc 5 rfl rfl
        have H229 : St w _ [_, _, _, _, _, _] w223 := H228.foc 5 rfl rfl
        have H230 : St w _ [_, _, _] w223 := H229.take 3 rfl
        refine ⟨H230, ?_⟩
        refine tly (v := Ad (bs g16) (0 + 1)) rfl (y_fld Try.underlying41 rfl rfl sz39 (by decide) s10_25) ?_
        have H231 : St w _ [_, _, _, _, _, _] w223 := H224.foc 4 rfl rfl
        refine t0 rfl (ow_store (j := 1) H231 sz39 rfl rfl (Rd.one (ho225.rd H231 1 rfl)) rfl (by simp)) ?_
        rintro _ w232 H233'
        have H233 : St w _ [[(g16, Rw 41 ([I ((cs.length : Nat) : Int), v222]))], _, _, _, _, _] w232 := H233'
        refine p_nil ?_
        refine n_then ?_
        refine c_seq ?_
        refine c_reg ?_
        refine sy (v := .bool (decide (ahead kind key ((cs.getD i c0).c.k) ((cs.getD i c0).c.key)))) (y_move rfl) ?_
        refine c_nil ?_
        refine n_then ?_
        refine c_f rfl (decide_eq_false hp200) ?_
        refine wp_skip ?_
        refine n_block (n_then ?_)
        refine c_reg ?_
        refine sy (v := I ((i : Nat) : Int)) (y_move s11_25) ?_
        refine sy (v := I ((i + 1 : Nat) : Int)) (n_add (a := i) (b := 1) rfl rfl (by omega)) ?_
        refine sy (v := I ((i + 1 : Nat) : Int)) (y_assign rfl) ?_
        refine c_nil ?_
        have H234 : St w _ [_, _, _, _, _, _] w232 := H233.foc 5 rfl rfl
        have H235 : St w _ [_, _, _, _, _, _] w232 := H234.foc 3 rfl rfl
        have H236 : St w _ [_, _, _, _, _, _] w232 := H235.foc 3 rfl rfl
        have H237 : St w _ [_, _, _, _, _, _] w232 := H236.foc 3 rfl rfl
        have H238 : St w _ [_, _, _, _, _, _] w232 := H237.foc 5 rfl rfl
        have H239 : St w _ [_, _, _, _, _, _] w232 := H238.foc 5 rfl rfl
        obtain ⟨H240, -⟩ := H239.join
        have H241 : St w _ [_, _, _, _, _] w232 := H240.foc 4 rfl rfl
        have H242 : St w _ [_, _, _, _, _] w232 := H241.foc 2 rfl rfl
        have H243 : St w _ [_, _, _, _, _] w232 := H242.foc 2 rfl rfl
        have H244 : St w _ [_, _, _, _, _] w232 := H243.foc 3 rfl rfl
        have H245 : St w _ [_, _, _, _] w232 := H244.take 4 rfl
        have : ¬ 0 < plcI kind key cs i := fun hh => hp200 (plc_pos.1 hh)
        have : plcI kind key cs i ≠ 0 := fun hh => hc28 (plc_zero.1 hh).2
        have hlt : plcI kind key cs i < 0 := by omega
        have hls0 : ls = [] := by
         have h := hm
         rw [mid_no (by omega)] at h
         exact List.map_eq_nil_iff.1 h
        exact lp_next (i + 1) ⟨v222, E221, (F ++ E204), (ls ++ [f203]), s0_25, s1_25, s2_25, s6_25, s10_25, rfl, (by omega), (fun j hj => by
         by_cases e : j = i
         · rw [e]; exact hlt
         · exact hz j (by omega)), ho225, (LeafsP.snoc hf208 hF), (by rw [hls0]; simp), (by rw [mid_yes (by omega), hls0]; show [f203.e] = _; rw [he207]; rfl), H245⟩ (by show _ < _; omega)
       ·
        refine gno (gv_of (t := 96) rfl rfl rfl) (decide_eq_false hp200) ?_
        refine gno (gv_of (t := 96) rfl rfl rfl) (decide_eq_false hp200) ?_
        refine gun (gv_of (t := 98) rfl rfl rfl) ?_
        refine gun (gv_of (t := 98) rfl rfl rfl) ?_
        refine gun (gv_of (t := 100) rfl rfl rfl) ?_
        refine gun (gv_of (t := 100) rfl rfl rfl) ?_
        refine gun (gv_of (t := 100) rfl rfl rfl) ?_
        refine gun (gv_of (t := 100) rfl rfl rfl) ?_
        refine gun (gv_of (t := 100) rfl rfl rfl) ?_
        refine gun (gv_of (t := 100) rfl rfl rfl) ?_
        refine gun (gv_of (t := 100) rfl rfl rfl) ?_
        refine gun (gv_of (t := 100) rfl rfl rfl) ?_
        refine gun (gv_of (t := 100) rfl rfl rfl) ?_
        refine gun (gv_of (t := 109) rfl rfl rfl) ?_
        refine gun (gv_of (t := 109) rfl rfl rfl) ?_
        refine gun (gv_of (t := 109) rfl rfl rfl) ?_
        refine gun (gv_of (t := 109) rfl rfl rfl) ?_
        refine gun (gv_of (t := 109) rfl rfl rfl) ?_
        refine gun (gv_of (t := 109) rfl rfl rfl) ?_
        refine gun (gv_of (t := 109) rfl rfl rfl) ?_
        refine gun (gv_of (t := 109) rfl rfl rfl) ?_
        refine gun (gv_of (t := 100) rfl rfl rfl) ?_
        refine gun (gv_of (t := 100) rfl rfl rfl) ?_
        refine gun (gv_of (t := 98) rfl rfl rfl) ?_
        refine gno (gv_of (t := 96) rfl rfl rfl) (decide_eq_false hp200) ?_
        refine sy (v := .bool (false)) (y_pickF (v := .bool (false)) rfl (decide_eq_false hp200) rfl) ?_
        refine c_nil ?_
        refine n_then ?_
        refine c_f rfl rfl ?_
        refine wp_skip ?_
        refine n_then ?_
        refine c_seq ?_
        refine c_reg ?_
        refine sy (v := .bool (decide (ahead kind key ((cs.getD i c0).c.k) ((cs.getD i c0).c.key)))) (y_move rfl) ?_
        refine c_nil ?_
        refine n_then ?_
        refine c_t rfl (decide_eq_true (Classical.not_not.1 hp200)) ?_
        refine c_seq ?_
        refine drawSub (.step 0 0 (.step 0 1 (.step 0 2 (.step 0 3 (.step 1 4 (.step 1 5 (.step 1 6 (.step 2 7 (.step 2 8 .nil))))))))) mixed H51 (fun _ h => h.drop) (by kernel_rfl) (by kernel_rfl) (by kernel_rfl) ?_
        intro w246 H247
        refine pt (v := Ad (bs g16) (0 + 1)) rfl (fun wS HS => y_fld Try.underlying41 rfl rfl sz39 (by decide) s10_25) ?_
        refine pt (v := lv) rfl (fun wS HS => y_load sc39 rfl (HS.cell 1 rfl rfl)) ?_
        refine pt (v := v0) rfl (fun wS HS => y_move s0_25) ?_
        refine pt (v := I ((i : Nat) : Int)) rfl (fun wS HS => y_move s11_25) ?_
        refine pl rfl (ow_call fn103 rfl (leafOf_c v0 cs i _ (hC.st H247).nil (by omega) hle) ⟨rfl, rfl, trivial⟩) ?_
        rintro _ w250 ⟨f248, E249, rfl, he252, hf253, H251⟩
        have H254 : St w _ [_, _, _, _, _] w250 := H247.app H251
        have H255 : St w _ [_, _, _, _, _] w250 := H254.foc 4 rfl rfl
        have H256 : St w _ [_, _, _, _, _] w250 := H255.foc 4 rfl rfl
        have H257 : St w _ [_, _, _, _, _] w250 := H256.foc 4 rfl rfl
        have H258 : St w _ [_, _, _] w250 := H257.take 3 rfl
        refine ⟨H258, ?_⟩
        refine pl rfl (ow_buildSlice (pv := [(0, .agg ([I f248.n, I f248.cell.c.k, .string (bst f248.cell.c.key), f248.cell.v, f248.pv]).toArray)]) (us := [I (f248.n), I (f248.cell.c.k), .string (bst f248.cell.c.key), f248.cell.v, f248.pv]) Try.underlying39 sz74 zr74 H254 ⟨⟨rfl, rfl⟩, trivial⟩ (by decide) (by kernel_rfl)) ?_
        rintro _ w260 ⟨g259, rfl, H261⟩
        have H262 : St w _ [_, _, _, _, _, _] w260 := H261.foc 5 rfl rfl
        have H263 : St w _ [_, _, _, _, _, _] w260 := H262.foc 5 rfl rfl
        have H264 : St w _ [_, _, _, _, _, _] w260 := H263.foc 5 rfl rfl
        have H265 : St w _ [_, _, _] w260 := H264.take 3 rfl
        refine ⟨H265, ?_⟩
        have H271 : St w _ [_, _, _, _, _, _] w260 := H261.foc 2 rfl rfl
        refine pl rfl (ow_append (m := 1) (news := [I (f248.n), I (f248.cell.c.k), .string (bst f248.cell.c.key), f248.cell.v, f248.pv]) Try.underlying39 sz74 zr74 bt74 rfl ho H271 rfl rfl (((H271.rd (n := 1) (s := 5) (cap := 1) 1 rfl (by simp) ⟨Nat.le_refl _, by simp [maxLen]⟩).src Try.underlying39 (by intro u hu; simp only [List.mem_cons, List.not_mem_nil, or_false] at hu; rcases hu with rfl | rfl | rfl | rfl | rfl <;> first | rfl | exact Rd.one (LeafP.lr hf253 (H271.foc 2 rfl rfl)).cell.1 | exact Rd.one (LeafP.lr hf253 (H271.foc 2 rfl rfl)).rd))) (by omega) (by omega)) ?_
        rintro v267 w268 ⟨E266, ho270', H269⟩
        have ho270 : OS 74 5 v267 (ls ++ [f248]).length ((ls ++ [f248]).flatMap Lf.cs) E266 := by rw [flat5_snoc, List.length_append]; exact ho270'
        have H272 : St w _ [_, _, _, _, _, _] w268 := H269.foc 5 rfl rfl
        have H273 : St w _ [_, _, _, _, _, _] w268 := H272.foc 5 rfl rfl
        have H274 : St w _ [_, _, _, _, _, _] w268 := H273.foc 5 rfl rfl
        have H275 : St w _ [_, _, _] w268 := H274.take 3 rfl
        refine ⟨H275, ?_⟩
        refine tly (v := Ad (bs g16) (0 + 1)) rfl (y_fld Try.underlying41 rfl rfl sz39 (by decide) s10_25) ?_
        have H276 : St w _ [_, _, _, _, _, _] w268 := H269.foc 4 rfl rfl
        refine t0 rfl (ow_store (j := 1) H276 sz39 rfl rfl (Rd.one (ho270.rd H276 1 rfl)) rfl (by simp)) ?_
        rintro _ w277 H278'
        have H278 : St w _ [[(g16, Rw 41 ([I ((cs.length : Nat) : Int), v267]))], _, _, _, _, _] w277 := H278'
        refine p_nil ?_
        refine n_then ?_
        refine c_seq ?_
        refine c_reg ?_
        refine sy (v := .agg ([I ((cs.length : Nat) : Int), v267]).toArray) (y_loadA (us := [I ((cs.length : Nat) : Int), v267]) ag41 sz41 rfl s10_25 (fun j u hu => (H278.cell 0 rfl (by rw [Nat.zero_add]; exact hu)))) ?_
        have H279 : St w _ [_, _, _, _, _, _] w277 := H278.foc 5 rfl rfl
        refine s0 (ow_storeW (us := [I ((cs.length : Nat) : Int), v267]) H279 sz41 rfl s6_25 rfl (by intro u hu; simp only [List.mem_cons, List.not_mem_nil, or_false] at hu; rcases hu with rfl | rfl <;> first | rfl | exact Rd.one (ho270.rd H279 2 rfl)) (by simp [*])) ?_
        rintro _ w280 H281'
        have H281 : St w _ [[(g1, Rw 41 ([I ((cs.length : Nat) : Int), v267]))], _, _, _, _, _] w280 := H281'
        refine sy (v := I ((0 : Nat) : Int)) (y_assign (v := I ((0 : Nat) : Int)) rfl) ?_
        refine c_nil ?_
        refine n_then ?_
        refine wp_ret ?_
        refine r_block (r_then (r_then (r_block (r_then ?_))))
        refine e_r2 Try.results46 (rv_b H281 (i := 0) rfl ag41 sz41 rfl s6_25) (rv_t rfl) ?_
        have : 0 < plcI kind key cs i := plc_pos.2 (Classical.not_not.1 hp200)
        have : plcI kind key cs i ≠ 0 := fun hh => hc28 (plc_zero.1 hh).2
        have H282 : St w _ [_, _, _, _, _, _] w280 := H281.foc 3 rfl rfl
        have H283 : St w _ [_, _, _, _, _, _] w280 := H282.foc 3 rfl rfl
        have H284 : St w _ [_, _, _, _, _, _] w280 := H283.foc 3 rfl rfl
        have H285 : St w _ [_, _, _, _, _, _] w280 := H284.foc 3 rfl rfl
        have H286 : St w _ [_, _, _, _, _, _] w280 := H285.foc 5 rfl rfl
        have H287 : St w _ [_, _, _, _, _, _] w280 := H286.foc 5 rfl rfl
        obtain ⟨H288, -⟩ := H287.join
        have H289 : St w _ [_, _, _, _, _] w280 := H288.foc 3 rfl rfl
        have H290 : St w _ [_, _, _, _, _] w280 := H289.foc 1 rfl rfl
        have H291 : St w _ [_, _] w280 := H290.take 2 rfl
        obtain ⟨H292, hd293⟩ := H291.join
        exact ⟨_, rfl, _, _, (ls ++ [f248]), 0, _, rfl, .inr (.inr ⟨hkm, hwr, (List.length_map _).symm, rfl, i, isP_mk hi hz (fun _ => by omega), (by rw [at_pos (by omega) (by omega), ← hm, PE, PE, List.map_append]; show _ ++ [f248.e] = _; rw [he252])⟩), ⟨_, _, rfl, ho270, (LeafsP.snoc hf253 hF), hd293, by rw [List.length_append, List.length_singleton]; omega⟩, H292⟩
    ·
     refine gno (gv_of (t := 42) rfl rfl rfl) (decide_eq_false hp27) ?_
     refine gno (gv_of (t := 42) rfl rfl rfl) (decide_eq_false hp27) ?_
     refine gno (gv_of (t := 42) rfl rfl rfl) (decide_eq_false hp27) ?_
     refine gno (gv_of (t := 42) rfl rfl rfl) (decide_eq_false hp27) ?_
     refine gno (gv_of (t := 42) rfl rfl rfl) (decide_eq_false hp27) ?_
     refine gno (gv_of (t := 42) rfl rfl rfl) (decide_eq_false hp27) ?_
     refine gno (gv_of (t := 42) rfl rfl rfl) (decide_eq_false hp27) ?_
     refine sy (v := .bool (false)) (y_pickF (v := .bool (false)) rfl (decide_eq_false hp27) rfl) ?_
     refine c_nil ?_
     refine n_then ?_
     refine c_f rfl rfl ?_
     refine wp_skip ?_
     refine n_then ?_
     refine c_seq ?_
     refine drawS (.step 0 0 (.step 0 1 (.step 0 2 (.step 0 3 (.step 0 4 (.step 0 5 (.step 0 6 (.step 0 7 (.step 0 8 (.step 0 9 (.step 0 10 (.step 0 11 (.step 1 12 (.step 2 13 .nil)))))))))))))) mixed H25 (by kernel_rfl) (by kernel_rfl) (by kernel_rfl) ?_
     intro w294 H295
     refine pt (v := I (kind)) rfl (fun wS HS => y_move s1_25) ?_
     refine pt (v := .string (bst key)) rfl (fun wS HS => y_move s2_25) ?_
     refine pt (v := v0) rfl (fun wS HS => y_move s0_25) ?_
     refine pt (v := I ((i : Nat) : Int)) rfl (fun wS HS => y_move s11_25) ?_
     refine pt (v := Ad (sp (v0)) (i * 3)) rfl (fun wS HS => y_ixR (m := i) Try.underlying38 sz48 (hC.st HS).rd (by decide) rfl rfl rfl (by omega)) ?_
     refine pt (v := Ad (sp (v0)) ((i * 3) + 0)) rfl (fun wS HS => y_fld Try.underlying48 rfl rfl sz3 (by decide) rfl) ?_
     refine pt (v := I ((cs.getD i c0).c.k)) rfl (fun wS HS => y_load sc3 rfl ((hC.st HS).rd.cell _ _ (flat3_get (i := i) (j := 0) (d := c0) (by omega) rfl))) ?_
     refine pt (v := v0) rfl (fun wS HS => y_move s0_25) ?_
     refine pt (v := I ((i : Nat) : Int)) rfl (fun wS HS => y_move s11_25) ?_
     refine pt (v := Ad (sp (v0)) (i * 3)) rfl (fun wS HS => y_ixR (m := i) Try.underlying38 sz48 (hC.st HS).rd (by decide) rfl rfl rfl (by omega)) ?_
     refine pt (v := Ad (sp (v0)) ((i * 3) + 1)) rfl (fun wS HS => y_fld Try.underlying48 rfl rfl sz9 (by decide) rfl) ?_
     refine pt (v := .string (bst ((cs.getD i c0).c.key))) rfl (fun wS HS => y_load sc9 rfl ((hC.st HS).rd.cell _ _ (flat3_get (i := i) (j := 1) (d := c0) (by omega) rfl))) ?_
     refine pl rfl (ow_call fn84 rfl (ahead_c (kind) (key) ((cs.getD i c0).c.k) ((cs.getD i c0).c.key) _) ⟨rfl, rfl, rfl, rfl, trivial⟩) ?_
     rintro _ w296 ⟨rfl, hB297⟩
     have H298 : St w _ [_, _, _, _] w296 := H295.call hB297
     refine ⟨H298, ?_⟩
     refine tly (v := .bool (decide (ahead kind key ((cs.getD i c0).c.k) ((cs.getD i c0).c.key)))) rfl (y_assign rfl) ?_
     refine p_nil ?_
     refine n_then ?_
     refine c_seq ?_
     refine c_reg ?_
     refine sy (v := I ((i : Nat) : Int)) (y_move s11_25) ?_
     refine sy (v := I ((i + 1 : Nat) : Int)) (n_add (a := i) (b := 1) rfl rfl (by omega)) ?_
     refine sy (v := v0) (y_move s0_25) ?_
     refine sy (v := I ((cs.length : Nat) : Int)) (y_lenR Try.underlying38 (hC.st H298).rd rfl) ?_
     refine sy (v := .bool (decide ((i + 1) = cs.length))) (n_eql (a := i + 1) (b := cs.length) rfl rfl) ?_
     refine sy (v := .bool (decide ((i + 1) = cs.length))) (y_assign rfl) ?_
     refine c_nil ?_
     refine n_then ?_
     refine c_seq ?_
     refine c_reg ?_
     refine sy (v := .bool (false)) (y_assign (v := .bool (false)) rfl) ?_
     refine c_nil ?_
     refine n_then ?_
     refine c_seq ?_
     refine c_seq ?_
     refine c_reg ?_
     refine sy (v := .bool (decide ((i + 1) = cs.length))) (y_move rfl) ?_
     refine sy (v := .bool (decide (¬ ((i + 1) = cs.length)))) (y_notP rfl) ?_
     refine c_nil ?_
     refine n_then ?_
     refine c_if rfl (fun hc299 => ?_) (fun hc299 => ?_)
     ·
      refine drawS (.step 0 0 (.step 0 1 (.step 0 2 (.step 0 3 (.step 0 4 (.step 0 5 (.step 0 6 (.step 0 7 (.step 0 8 (.step 0 9 (.step 0 10 (.step 0 11 (.step 0 12 (.step 0 13 (.step 1 14 (.step 0 15 (.step 2 16 .nil))))))))))))))))) mixed H298 (by kernel_rfl) (by kernel_rfl) (by kernel_rfl) ?_
      intro w300 H301
      refine pt (v := v0) rfl (fun wS HS => y_move s0_25) ?_
      refine pt (v := I ((i : Nat) : Int)) rfl (fun wS HS => y_move s11_25) ?_
      refine pt (v := I ((i + 1 : Nat) : Int)) rfl (fun wS HS => n_add (a := i) (b := 1) rfl rfl (by omega)) ?_
      refine pt (v := Ad (sp (v0)) ((i + 1) * 3)) rfl (fun wS HS => y_ixR (m := i + 1) Try.underlying38 sz48 (hC.st HS).rd (by decide) rfl rfl rfl (by omega)) ?_
      refine pt (v := Ad (sp (v0)) (((i + 1) * 3) + 0)) rfl (fun wS HS => y_fld Try.underlying48 rfl rfl sz3 (by decide) rfl) ?_
      refine pt (v := I ((cs.getD (i + 1) c0).c.k)) rfl (fun wS HS => y_load sc3 rfl ((hC.st HS).rd.cell _ _ (flat3_get (i := i + 1) (j := 0) (d := c0) (by omega) rfl))) ?_
      refine pt (v := v0) rfl (fun wS HS => y_move s0_25) ?_
      refine pt (v := I ((i : Nat) : Int)) rfl (fun wS HS => y_move s11_25) ?_
      refine pt (v := I ((i + 1 : Nat) : Int)) rfl (fun wS HS => n_add (a := i) (b := 1) rfl rfl (by omega)) ?_
      refine pt (v := Ad (sp (v0)) ((i + 1) * 3)) rfl (fun wS HS => y_ixR (m := i + 1) Try.underlying38 sz48 (hC.st HS).rd (by decide) rfl rfl rfl (by omega)) ?_
      refine pt (v := Ad (sp (v0)) (((i + 1) * 3) + 1)) rfl (fun wS HS => y_fld Try.underlying48 rfl rfl sz9 (by decide) rfl) ?_
      refine pt (v := .string (bst ((cs.getD (i + 1) c0).c.key))) rfl (fun wS HS => y_load sc9 rfl ((hC.st HS).rd.cell _ _ (flat3_get (i := i + 1) (j := 1) (d := c0) (by omega) rfl))) ?_
      refine pt (v := I (kind)) rfl (fun wS HS => y_move s1_25) ?_
      refine pt (v := .string (bst key)) rfl (fun wS HS => y_move s2_25) ?_
      refine pl rfl (ow_call fn84 rfl (ahead_c ((cs.getD (i + 1) c0).c.k) ((cs.getD (i + 1) c0).c.key) (kind) (key) _) ⟨rfl, rfl, rfl, rfl, trivial⟩) ?_
      rintro _ w302 ⟨rfl, hB303⟩
      have H304 : St w _ [_, _, _, _] w302 := H301.call hB303
      refine ⟨H304, ?_⟩
      refine pt (v := .bool (decide (¬ (ahead ((cs.getD (i + 1) c0).c.k) ((cs.getD (i + 1) c0).c.key) kind key)))) rfl (fun wS HS => y_notP rfl) ?_
      refine tly (v := .bool (decide (¬ (ahead ((cs.getD (i + 1) c0).c.k) ((cs.getD (i + 1) c0).c.key) kind key)))) rfl (y_assign rfl) ?_
      refine p_nil ?_
      refine n_then ?_
      refine c_seq ?_
      refine c_seq ?_
      refine c_reg ?_
      refine sy (v := .bool (decide (ahead kind key ((cs.getD i c0).c.k) ((cs.getD i c0).c.key)))) (y_move rfl) ?_
      refine sy (v := .bool (decide (¬ (ahead kind key ((cs.getD i c0).c.k) ((cs.getD i c0).c.key))))) (y_notP rfl) ?_
      refine sy (v := .bool (decide (¬ (ahead kind key ((cs.getD i c0).c.k) ((cs.getD i c0).c.key))))) (y_move rfl) ?_
      by_cases hp305 : ¬ (ahead kind key ((cs.getD i c0).c.k) ((cs.getD i c0).c.key))
      ·
       refine gsy (v := .bool (decide ((i + 1) = cs.length))) (gv_of (t := 96) rfl rfl rfl) (decide_eq_true hp305) (y_move rfl) ?_
       refine gsy (v := .bool (decide ((i + 1) = cs.length))) (gv_of (t := 96) rfl rfl rfl) (decide_eq_true hp305) (y_move rfl) ?_
       refine gsy (v := .bool (decide (¬ (ahead ((cs.getD (i + 1) c0).c.k) ((cs.getD (i + 1) c0).c.key) kind key)))) (gv_of (t := 98) rfl rfl rfl) (decide_eq_false hc299) (y_move rfl) ?_
       refine gsy (v := .bool (decide (¬ (ahead ((cs.getD (i + 1) c0).c.k) ((cs.getD (i + 1) c0).c.key) kind key)))) (gv_of (t := 98) rfl rfl rfl) (decide_eq_false hc299) (y_move rfl) ?_
       by_cases hp306 : ¬ (ahead ((cs.getD (i + 1) c0).c.k) ((cs.getD (i + 1) c0).c.key) kind key)
       ·
        refine gsy (v := v0) (gv_of (t := 100) rfl rfl rfl) (decide_eq_true hp306) (y_move s0_25) ?_
        refine gsy (v := I ((i : Nat) : Int)) (gv_of (t := 100) rfl rfl rfl) (decide_eq_true hp306) (y_move s11_25) ?_
        refine gsy (v := I ((i + 1 : Nat) : Int)) (gv_of (t := 100) rfl rfl rfl) (decide_eq_true hp306) (n_add (a := i) (b := 1) rfl rfl (by omega)) ?_
        refine gsy (v := Ad (sp (v0)) ((i + 1) * 3)) (gv_of (t := 100) rfl rfl rfl) (decide_eq_true hp306) (y_ixR (m := i + 1) Try.underlying38 sz48 (hC.st H304).rd (by decide) rfl rfl rfl (by omega)) ?_
        refine gsy (v := Ad (sp (v0)) (((i + 1) * 3) + 0)) (gv_of (t := 100) rfl rfl rfl) (decide_eq_true hp306) (y_fld Try.underlying48 rfl rfl sz3 (by decide) rfl) ?_
        refine gsy (v := I ((cs.getD (i + 1) c0).c.k)) (gv_of (t := 100) rfl rfl rfl) (decide_eq_true hp306) (y_load sc3 rfl ((hC.st H304).rd.cell _ _ (flat3_get (i := i + 1) (j := 0) (d := c0) (by omega) rfl))) ?_
        refine gsy (v := I (kind)) (gv_of (t := 100) rfl rfl rfl) (decide_eq_true hp306) (y_move s1_25) ?_
        refine gsy (v := .bool (decide (((cs.getD (i + 1) c0).c.k) = kind))) (gv_of (t := 100) rfl rfl rfl) (decide_eq_true hp306) (y_eqlK (i := ((cs.getD (i + 1) c0).c.k)) (j := kind) rfl rfl) ?_
        refine gsy (v := .bool (decide (((cs.getD (i + 1) c0).c.k) = kind))) (gv_of (t := 100) rfl rfl rfl) (decide_eq_true hp306) (y_move rfl) ?_
        by_cases hp307 : ((cs.getD (i + 1) c0).c.k) = kind
        ·
         refine gsy (v := v0) (gv_of (t := 109) rfl rfl rfl) (decide_eq_true hp307) (y_move s0_25) ?_
         refine gsy (v := I ((i : Nat) : Int)) (gv_of (t := 109) rfl rfl rfl) (decide_eq_true hp307) (y_move s11_25) ?_
         refine gsy (v := I ((i + 1 : Nat) : Int)) (gv_of (t := 109) rfl rfl rfl) (decide_eq_true hp307) (n_add (a := i) (b := 1) rfl rfl (by omega)) ?_
         refine gsy (v := Ad (sp (v0)) ((i + 1) * 3)) (gv_of (t := 109) rfl rfl rfl) (decide_eq_true hp307) (y_ixR (m := i + 1) Try.underlying38 sz48 (hC.st H304).rd (by decide) rfl rfl rfl (by omega)) ?_
         refine gsy (v := Ad (sp (v0)) (((i + 1) * 3) + 1)) (gv_of (t := 109) rfl rfl rfl) (decide_eq_true hp307) (y_fld Try.underlying48 rfl rfl sz9 (by decide) rfl) ?_
         refine gsy (v := .string (bst ((cs.getD (i + 1) c0).c.key))) (gv_of (t := 109) rfl rfl rfl) (decide_eq_true hp307) (y_load sc9 rfl ((hC.st H304).rd.cell _ _ (flat3_get (i := i + 1) (j := 1) (d := c0) (by omega) rfl))) ?_
         refine gsy (v := .string (bst key)) (gv_of (t := 109) rfl rfl rfl) (decide_eq_true hp307) (y_move s2_25) ?_
         refine gsy (v := .bool (decide (((cs.getD (i + 1) c0).c.key) = key))) (gv_of (t := 109) rfl rfl rfl) (decide_eq_true hp307) (y_eqlS (a := (cs.getD (i + 1) c0).c.key) (b := key) rfl rfl) ?_
         refine gsy (v := .bool (decide (((cs.getD (i + 1) c0).c.key) = key))) (gv_of (t := 100) rfl rfl rfl) (decide_eq_true hp306) (y_pickT rfl (decide_eq_true hp307) rfl) ?_
         refine gsy (v := .bool (decide (¬ (((cs.getD (i + 1) c0).c.key) = key)))) (gv_of (t := 100) rfl rfl rfl) (decide_eq_true hp306) (y_notP rfl) ?_
         refine gsy (v := .bool (decide (¬ (((cs.getD (i + 1) c0).c.key) = key)))) (gv_of (t := 98) rfl rfl rfl) (decide_eq_false hc299) (y_pickT rfl (decide_eq_true hp306) rfl) ?_
         refine gsy (v := .bool (decide (¬ (((cs.getD (i + 1) c0).c.key) = key)))) (gv_of (t := 96) rfl rfl rfl) (decide_eq_true hp305) (y_pickF rfl (decide_eq_false hc299) rfl) ?_
         refine sy (v := .bool (decide (¬ (((cs.getD (i + 1) c0).c.key) = key)))) (y_pickT rfl (decide_eq_true hp305) rfl) ?_
         refine c_nil ?_
         refine n_then ?_
         refine c_if rfl (fun hc308 => ?_) (fun hc308 => ?_)
         ·
          refine drawSub (.step 0 0 (.step 0 1 (.step 0 2 (.step 0 3 (.step 1 4 (.step 1 5 (.step 1 6 (.step 2 7 (.step 2 8 .nil))))))))) mixed H304 (fun _ h => h.drop) (by kernel_rfl) (by kernel_rfl) (by kernel_rfl) ?_
          intro w309 H310
          refine pt (v := Ad (bs g16) (0 + 1)) rfl (fun wS HS => y_fld Try.underlying41 rfl rfl sz39 (by decide) s10_25) ?_
          refine pt (v := lv) rfl (fun wS HS => y_load sc39 rfl (HS.cell 1 rfl rfl)) ?_
          refine pt (v := v0) rfl (fun wS HS => y_move s0_25) ?_
          refine pt (v := I ((i : Nat) : Int)) rfl (fun wS HS => y_move s11_25) ?_
          refine pl rfl (ow_call fn103 rfl (leafOf_c v0 cs i _ (hC.st H310).nil (by omega) hle) ⟨rfl, rfl, trivial⟩) ?_
          rintro _ w313 ⟨f311, E312, rfl, he315, hf316, H314⟩
          have H317 : St w _ [_, _, _, _, _] w313 := H310.app H314
          have H318 : St w _ [_, _, _, _, _] w313 := H317.foc 4 rfl rfl
          have H319 : St w _ [_, _, _, _, _] w313 := H318.foc 4 rfl rfl
          have H320 : St w _ [_, _, _, _, _] w313 := H319.foc 4 rfl rfl
          have H321 : St w _ [_, _, _] w313 := H320.take 3 rfl
          refine ⟨H321, ?_⟩
          refine pl rfl (ow_buildSlice (pv := [(0, .agg ([I f311.n, I f311.cell.c.k, .string (bst f311.cell.c.key), f311.cell.v, f311.pv]).toArray)]) (us := [I (f311.n), I (f311.cell.c.k), .string (bst f311.cell.c.key), f311.cell.v, f311.pv]) Try.underlying39 sz74 zr74 H317 ⟨⟨rfl, rfl⟩, trivial⟩ (by decide) (by kernel_rfl)) ?_
          rintro _ w323 ⟨g322, rfl, H324⟩
          have H325 : St w _ [_, _, _, _, _, _] w323 := H324.foc 5 rfl rfl
          have H326 : St w _ [_, _, _, _, _, _] w323 := H325.foc 5 rfl rfl
          have H327 : St w _ [_, _, _, _, _, _] w323 := H326.foc 5 rfl rfl
          have H328 : St w _ [_, _, _] w323 := H327.take 3 rfl
          refine ⟨H328, ?_⟩
          have H334 : St w _ [_, _, _, _, _, _] w323 := H324.foc 2 rfl rfl
          refine pl rfl (ow_append (m := 1) (news := [I (f311.n), I (f311.cell.c.k), .string (bst f311.cell.c.key), f311.cell.v, f311.pv]) Try.underlying39 sz74 zr74 bt74 rfl ho H334 rfl rfl (((H334.rd (n := 1) (s := 5) (cap := 1) 1 rfl (by simp) ⟨Nat.le_refl _, by simp [maxLen]⟩).src Try.underlying39 (by intro u hu; simp only [List.mem_cons, List.not_mem_nil, or_false] at hu; rcases hu with rfl | rfl | rfl | rfl | rfl <;> first | rfl | exact Rd.one (LeafP.lr hf316 (H334.foc 2 rfl rfl)).cell.1 | exact Rd.one (LeafP.lr hf316 (H334.foc 2 rfl rfl)).rd))) (by omega) (by omega)) ?_
          rintro v330 w331 ⟨E329, ho333', H332⟩
          have ho333 : OS 74 5 v330 (ls ++ [f311]).length ((ls ++ [f311]).flatMap Lf.cs) E329 := by rw [flat5_snoc, List.length_append]; exact ho333'
          have H335 : St w _ [_, _, _, _, _, _] w331 := H332.foc 5 rfl rfl
          have H336 : St w _ [_, _, _, _, _, _] w331 := H335.foc 5 rfl rfl
          have H337 : St w _ [_, _, _, _, _, _] w331 := H336.foc 5 rfl rfl
          have H338 : St w _ [_, _, _] w331 := H337.take 3 rfl
          refine ⟨H338, ?_⟩
          refine tly (v := Ad (bs g16) (0 + 1)) rfl (y_fld Try.underlying41 rfl rfl sz39 (by decide) s10_25) ?_
          have H339 : St w _ [_, _, _, _, _, _] w331 := H332.foc 4 rfl rfl
          refine t0 rfl (ow_store (j := 1) H339 sz39 rfl rfl (Rd.one (ho333.rd H339 1 rfl)) rfl (by simp)) ?_
          rintro _ w340 H341'
          have H341 : St w _ [[(g16, Rw 41 ([I ((cs.length : Nat) : Int), v330]))], _, _, _, _, _] w340 := H341'
          refine p_nil ?_
          refine n_then ?_
          refine c_seq ?_
          refine c_reg ?_
          refine sy (v := .bool (decide (ahead kind key ((cs.getD i c0).c.k) ((cs.getD i c0).c.key)))) (y_move rfl) ?_
          refine c_nil ?_
          refine n_then ?_
          refine c_f rfl (decide_eq_false hp305) ?_
          refine wp_skip ?_
          refine n_block (n_then ?_)
          refine c_reg ?_
          refine sy (v := I ((i : Nat) : Int)) (y_move s11_25) ?_
          refine sy (v := I ((i + 1 : Nat) : Int)) (n_add (a := i) (b := 1) rfl rfl (by omega)) ?_
          refine sy (v := I ((i + 1 : Nat) : Int)) (y_assign rfl) ?_
          refine c_nil ?_
          have H342 : St w _ [_, _, _, _, _, _] w340 := H341.foc 5 rfl rfl
          have H343 : St w _ [_, _, _, _, _, _] w340 := H342.foc 3 rfl rfl
          have H344 : St w _ [_, _, _, _, _, _] w340 := H343.foc 3 rfl rfl
          have H345 : St w _ [_, _, _, _, _, _] w340 := H344.foc 3 rfl rfl
          have H346 : St w _ [_, _, _, _, _, _] w340 := H345.foc 5 rfl rfl
          have H347 : St w _ [_, _, _, _, _, _] w340 := H346.foc 5 rfl rfl
          obtain ⟨H348, -⟩ := H347.join
          have H349 : St w _ [_, _, _, _, _] w340 := H348.foc 4 rfl rfl
          have H350 : St w _ [_, _, _, _, _] w340 := H349.foc 2 rfl rfl
          have H351 : St w _ [_, _, _, _, _] w340 := H350.foc 2 rfl rfl
          have H352 : St w _ [_, _, _, _, _] w340 := H351.foc 3 rfl rfl
          have H353 : St w _ [_, _, _, _] w340 := H352.take 4 rfl
          have : ¬ 0 < plcI kind key cs i := fun hh => hp305 (plc_pos.1 hh)
          have : plcI kind key cs i ≠ 0 := fun hh => hp27 (plc_zero.1 hh).1
          have : ¬ plcI kind key cs (i + 1) < 0 := fun hh => hp306 (plc_neg.1 hh)
          have : plcI kind key cs (i + 1) ≠ 0 := fun hh => hc308 (plc_zero.1 hh).2
          have hlt : plcI kind key cs i < 0 := by omega
          have hls0 : ls = [] := by
           have h := hm
           rw [mid_no (by omega)] at h
           exact List.map_eq_nil_iff.1 h
          exact lp_next (i + 1) ⟨v330, E329, (F ++ E312), (ls ++ [f311]), s0_25, s1_25, s2_25, s6_25, s10_25, rfl, (by omega), (fun j hj => by
           by_cases e : j = i
           · rw [e]; exact hlt
           · exact hz j (by omega)), ho333, (LeafsP.snoc hf316 hF), (by rw [hls0]; simp), (by rw [mid_yes (by omega), hls0]; show [f311.e] = _; rw [he315]; rfl), H353⟩ (by show _ < _; omega)
         ·
          refine wp_skip ?_
          refine n_then ?_
          refine c_seq ?_
          refine c_reg ?_
          refine sy (v := .bool (decide (ahead kind key ((cs.getD i c0).c.k) ((cs.getD i c0).c.key)))) (y_move rfl) ?_
          refine c_nil ?_
          refine n_then ?_
          refine c_f rfl (decide_eq_false hp305) ?_
          refine wp_skip ?_
          refine n_block (n_then ?_)
          refine c_reg ?_
          refine sy (v := I ((i : Nat) : Int)) (y_move s11_25) ?_
          refine sy (v := I ((i + 1 : Nat) : Int)) (n_add (a := i) (b := 1) rfl rfl (by omega)) ?_
          refine sy (v := I ((i + 1 : Nat) : Int)) (y_assign rfl) ?_
          refine c_nil ?_
          have : ¬ 0 < plcI kind key cs i := fun hh => hp305 (plc_pos.1 hh)
          have : plcI kind key cs i ≠ 0 := fun hh => hp27 (plc_zero.1 hh).1
          have : ¬ plcI kind key cs (i + 1) < 0 := fun hh => hp306 (plc_neg.1 hh)
          have : plcI kind key cs (i + 1) = 0 := plc_zero.2 ⟨hp307, (Classical.not_not.1 hc308)⟩
          have hlt : plcI kind key cs i < 0 := by omega
          have hls0 : ls = [] := by
           have h := hm
           rw [mid_no (by omega)] at h
           exact List.map_eq_nil_iff.1 h
          exact lp_next (i + 1) ⟨lv, E, F, ls, s0_25, s1_25, s2_25, s6_25, s10_25, rfl, (by omega), (fun j hj => by
           by_cases e : j = i
           · rw [e]; exact hlt
           · exact hz j (by omega)), ho, hF, (by omega), (by rw [mid_no (by omega), hls0]; rfl), H304⟩ (by show _ < _; omega)
        ·
         refine gno (gv_of (t := 109) rfl rfl rfl) (decide_eq_false hp307) ?_
         refine gno (gv_of (t := 109) rfl rfl rfl) (decide_eq_false hp307) ?_
         refine gno (gv_of (t := 109) rfl rfl rfl) (decide_eq_false hp307) ?_
         refine gno (gv_of (t := 109) rfl rfl rfl) (decide_eq_false hp307) ?_
         refine gno (gv_of (t := 109) rfl rfl rfl) (decide_eq_false hp307) ?_
         refine gno (gv_of (t := 109) rfl rfl rfl) (decide_eq_false hp307) ?_
         refine gno (gv_of (t := 109) rfl rfl rfl) (decide_eq_false hp307) ?_
         refine gno (gv_of (t := 109) rfl rfl rfl) (decide_eq_false hp307) ?_
         refine gsy (v := .bool (false)) (gv_of (t := 100) rfl rfl rfl) (decide_eq_true hp306) (y_pickF (v := .bool (false)) rfl (decide_eq_false hp307) rfl) ?_
         refine gsy (v := .bool (true)) (gv_of (t := 100) rfl rfl rfl) (decide_eq_true hp306) (y_not (p := false) rfl) ?_
         refine gsy (v := .bool (true)) (gv_of (t := 98) rfl rfl rfl) (decide_eq_false hc299) (y_pickT rfl (decide_eq_true hp306) rfl) ?_
         refine gsy (v := .bool (true)) (gv_of (t := 96) rfl rfl rfl) (decide_eq_true hp305) (y_pickF rfl (decide_eq_false hc299) rfl) ?_
         refine sy (v := .bool (true)) (y_pickT rfl (decide_eq_true hp305) rfl) ?_
         refine c_nil ?_
         refine n_then ?_
         refine c_t rfl rfl ?_
         refine drawSub (.step 0 0 (.step 0 1 (.step 0 2 (.step 0 3 (.step 1 4 (.step 1 5 (.step 1 6 (.step 2 7 (.step 2 8 .nil))))))))) mixed H304 (fun _ h => h.drop) (by kernel_rfl) (by kernel_rfl) (by kernel_rfl) ?_
         intro w354 H355
         refine pt (v := Ad (bs g16) (0 + 1)) rfl (fun wS HS => y_fld Try.underlying41 rfl rfl sz39 (by decide) s10_25) ?_
         refine pt (v := lv) rfl (fun wS HS => y_load sc39 rfl (HS.cell 1 rfl rfl)) ?_
         refine pt (v := v0) rfl (fun wS HS => y_move s0_25) ?_
         refine pt (v := I ((i : Nat) : Int)) rfl (fun wS HS => y_move s11_25) ?_
         refine pl rfl (ow_call fn103 rfl (leafOf_c v0 cs i _ (hC.st H355).nil (by omega) hle) ⟨rfl, rfl, trivial⟩) ?_
         rintro _ w358 ⟨f356, E357, rfl, he360, hf361, H359⟩
         have H362 : St w _ [_, _, _, _, _] w358 := H355.app H359
         have H363 : St w _ [_, _, _, _, _] w358 := H362.foc 4 rfl rfl
         have H364 : St w _ [_, _, _, _, _] w358 := H363.foc 4 rfl rfl
         have H365 : St w _ [_, _, _, _, _] w358 := H364.foc 4 rfl rfl
         have H366 : St w _ [_, _, _] w358 := H365.take 3 rfl
         refine ⟨H366, ?_⟩
         refine pl rfl (ow_buildSlice (pv := [(0, .agg ([I f356.n, I f356.cell.c.k, .string (bst f356.cell.c.key), f356.cell.v, f356.pv]).toArray)]) (us := [I (f356.n), I (f356.cell.c.k), .string (bst f356.cell.c.key), f356.cell.v, f356.pv]) Try.underlying39 sz74 zr74 H362 ⟨⟨rfl, rfl⟩, trivial⟩ (by decide) (by kernel_rfl)) ?_
         rintro _ w368 ⟨g367, rfl, H369⟩
         have H370 : St w _ [_, _, _, _, _, _] w368 := H369.foc 5 rfl rfl
         have H371 : St w _ [_, _, _, _, _, _] w368 := H370.foc 5 rfl rfl
         have H372 : St w _ [_, _, _, _, _, _] w368 := H371.foc 5 rfl rfl
         have H373 : St w _ [_, _, _] w368 := H372.take 3 rfl
         refine ⟨H373, ?_⟩
         have H379 : St w _ [_, _, _, _, _, _] w368 := H369.foc 2 rfl rfl
         refine pl rfl (ow_append (m := 1) (news := [I (f356.n), I (f356.cell.c.k), .string (bst f356.cell.c.key), f356.cell.v, f356.pv]) Try.underlying39 sz74 zr74 bt74 rfl ho H379 rfl rfl (((H379.rd (n := 1) (s := 5) (cap := 1) 1 rfl (by simp) ⟨Nat.le_refl _, by simp [maxLen]⟩).src Try.underlying39 (by intro u hu; simp only [List.mem_cons, List.not_mem_nil, or_false] at hu; rcases hu with rfl | rfl | rfl | rfl | rfl <;> first | rfl | exact Rd.one (LeafP.lr hf361 (H379.foc 2 rfl rfl)).cell.1 | exact Rd.one (LeafP.lr hf361 (H379.foc 2 rfl rfl)).rd))) (by omega) (by omega)) ?_
         rintro v375 w376 ⟨E374, ho378', H377⟩
         have ho378 : OS 74 5 v375 (ls ++ [f356]).length ((ls ++ [f356]).flatMap Lf.cs) E374 := by rw [flat5_snoc, List.length_append]; exact ho378'
         have H380 : St w _ [_, _, _, _, _, _] w376 := H377.foc 5 rfl rfl
         have H381 : St w _ [_, _, _, _, _, _] w376 := H380.foc 5 rfl rfl
         have H382 : St w _ [_, _, _, _, _, _] w376 := H381.foc 5 rfl rfl
         have H383 : St w _ [_, _, _] w376 := H382.take 3 rfl
         refine ⟨H383, ?_⟩
         refine tly (v := Ad (bs g16) (0 + 1)) rfl (y_fld Try.underlying41 rfl rfl sz39 (by decide) s10_25) ?_
         have H384 : St w _ [_, _, _, _, _, _] w376 := H377.foc 4 rfl rfl
         refine t0 rfl (ow_store (j := 1) H384 sz39 rfl rfl (Rd.one (ho378.rd H384 1 rfl)) rfl (by simp)) ?_
         rintro _ w385 H386'
         have H386 : St w _ [[(g16, Rw 41 ([I ((cs.length : Nat) : Int), v375]))], _, _, _, _, _] w385 := H386'
         refine p_nil ?_
         refine n_then ?_
         refine c_seq ?_
         refine c_reg ?_
         refine sy (v := .bool (decide (ahead kind key ((cs.getD i c0).c.k) ((cs.getD i c0).c.key)))) (y_move rfl) ?_
         refine c_nil ?_
         refine n_then ?_
         refine c_f rfl (decide_eq_false hp305) ?_
         refine wp_skip ?_
         refine n_block (n_then ?_)
         refine c_reg ?_
         refine sy (v := I ((i : Nat) : Int)) (y_move s11_25) ?_
         refine sy (v := I ((i + 1 : Nat) : Int)) (n_add (a := i) (b := 1) rfl rfl (by omega)) ?_
         refine sy (v := I ((i + 1 : Nat) : Int)) (y_assign rfl) ?_
         refine c_nil ?_
         have H387 : St w _ [_, _, _, _, _, _] w385 := H386.foc 5 rfl rfl
         have H388 : St w _ [_, _, _, _, _, _] w385 := H387.foc 3 rfl rfl
         have H389 : St w _ [_, _, _, _, _, _] w385 := H388.foc 3 rfl rfl
         have H390 : St w _ [_, _, _, _, _, _] w385 := H389.foc 3 rfl rfl
         have H391 : St w _ [_, _, _, _, _, _] w385 := H390.foc 5 rfl rfl
         have H392 : St w _ [_, _, _, _, _, _] w385 := H391.foc 5 rfl rfl
         obtain ⟨H393, -⟩ := H392.join
         have H394 : St w _ [_, _, _, _, _] w385 := H393.foc 4 rfl rfl
         have H395 : St w _ [_, _, _, _, _] w385 := H394.foc 2 rfl rfl
         have H396 : St w _ [_, _, _, _, _] w385 := H395.foc 2 rfl rfl
         have H397 : St w _ [_, _, _, _, _] w385 := H396.foc 3 rfl rfl
         have H398 : St w _ [_, _, _, _] w385 := H397.take 4 rfl
         have : ¬ 0 < plcI kind key cs i := fun hh => hp305 (plc_pos.1 hh)
         have : plcI kind key cs i ≠ 0 := fun hh => hp27 (plc_zero.1 hh).1
         have : ¬ plcI kind key cs (i + 1) < 0 := fun hh => hp306 (plc_neg.1 hh)
         have : plcI kind key cs (i + 1) ≠ 0 := fun hh => hp307 (plc_zero.1 hh).1
         have hlt : plcI kind key cs i < 0 := by omega
         have hls0 : ls = [] := by
          have h := hm
          rw [mid_no (by omega)] at h
          exact List.map_eq_nil_iff.1 h
         exact lp_next (i + 1) ⟨v375, E374, (F ++ E357), (ls ++ [f356]), s0_25, s1_25, s2_25, s6_25, s10_25, rfl, (by omega), (fun j hj => by
          by_cases e : j = i
          · rw [e]; exact hlt
          · exact hz j (by omega)), ho378, (LeafsP.snoc hf361 hF), (by rw [hls0]; simp), (by rw [mid_yes (by omega), hls0]; show [f356.e] = _; rw [he360]; rfl), H398⟩ (by show _ < _; omega)
       ·
        refine gno (gv_of (t := 100) rfl rfl rfl) (decide_eq_false hp306) ?_
        refine gno (gv_of (t := 100) rfl rfl rfl) (decide_eq_false hp306) ?_
        refine gno (gv_of (t := 100) rfl rfl rfl) (decide_eq_false hp306) ?_
        refine gno (gv_of (t := 100) rfl rfl rfl) (decide_eq_false hp306) ?_
        refine gno (gv_of (t := 100) rfl rfl rfl) (decide_eq_false hp306) ?_
        refine gno (gv_of (t := 100) rfl rfl rfl) (decide_eq_false hp306) ?_
        refine gno (gv_of (t := 100) rfl rfl rfl) (decide_eq_false hp306) ?_
        refine gno (gv_of (t := 100) rfl rfl rfl) (decide_eq_false hp306) ?_
        refine gno (gv_of (t := 100) rfl rfl rfl) (decide_eq_false hp306) ?_
        refine gun (gv_of (t := 109) rfl rfl rfl) ?_
        refine gun (gv_of (t := 109) rfl rfl rfl) ?_
        refine gun (gv_of (t := 109) rfl rfl rfl) ?_
        refine gun (gv_of (t := 109) rfl rfl rfl) ?_
        refine gun (gv_of (t := 109) rfl rfl rfl) ?_
        refine gun (gv_of (t := 109) rfl rfl rfl) ?_
        refine gun (gv_of (t := 109) rfl rfl rfl) ?_
        refine gun (gv_of (t := 109) rfl rfl rfl) ?_
        refine gno (gv_of (t := 100) rfl rfl rfl) (decide_eq_false hp306) ?_
        refine gno (gv_of (t := 100) rfl rfl rfl) (decide_eq_false hp306) ?_
        refine gsy (v := .bool (false)) (gv_of (t := 98) rfl rfl rfl) (decide_eq_false hc299) (y_pickF (v := .bool (false)) rfl (decide_eq_false hp306) rfl) ?_
        refine gsy (v := .bool (false)) (gv_of (t := 96) rfl rfl rfl) (decide_eq_true hp305) (y_pickF rfl (decide_eq_false hc299) rfl) ?_
        refine sy (v := .bool (false)) (y_pickT rfl (decide_eq_true hp305) rfl) ?_
        refine c_nil ?_
        refine n_then ?_
        refine c_f rfl rfl ?_
        refine wp_skip ?_
        refine n_then ?_
        refine c_seq ?_
        refine c_reg ?_
        refine sy (v := .bool (decide (ahead kind key ((cs.getD i c0).c.k) ((cs.getD i c0).c.key)))) (y_move rfl) ?_
        refine c_nil ?_
        refine n_then ?_
        refine c_f rfl (decide_eq_false hp305) ?_
        refine wp_skip ?_
        refine n_block (n_then ?_)
        refine c_reg ?_
        refine sy (v := I ((i : Nat) : Int)) (y_move s11_25) ?_
        refine sy (v := I ((i + 1 : Nat) : Int)) (n_add (a := i) (b := 1) rfl rfl (by omega)) ?_
        refine sy (v := I ((i + 1 : Nat) : Int)) (y_assign rfl) ?_
        refine c_nil ?_
        have : ¬ 0 < plcI kind key cs i := fun hh => hp305 (plc_pos.1 hh)
        have : plcI kind key cs i ≠ 0 := fun hh => hp27 (plc_zero.1 hh).1
        have : plcI kind key cs (i + 1) < 0 := plc_neg.2 (Classical.not_not.1 hp306)
        have hlt : plcI kind key cs i < 0 := by omega
        have hls0 : ls = [] := by
         have h := hm
         rw [mid_no (by omega)] at h
         exact List.map_eq_nil_iff.1 h
        exact lp_next (i + 1) ⟨lv, E, F, ls, s0_25, s1_25, s2_25, s6_25, s10_25, rfl, (by omega), (fun j hj => by
         by_cases e : j = i
         · rw [e]; exact hlt
         · exact hz j (by omega)), ho, hF, (by omega), (by rw [mid_no (by omega), hls0]; rfl), H304⟩ (by show _ < _; omega)
      ·
       refine gno (gv_of (t := 96) rfl rfl rfl) (decide_eq_false hp305) ?_
       refine gno (gv_of (t := 96) rfl rfl rfl) (decide_eq_false hp305) ?_
       refine gun (gv_of (t := 98) rfl rfl rfl) ?_
       refine gun (gv_of (t := 98) rfl rfl rfl) ?_
       refine gun (gv_of (t := 100) rfl rfl rfl) ?_
       refine gun (gv_of (t := 100) rfl rfl rfl) ?_
       refine gun (gv_of (t := 100) rfl rfl rfl) ?_
       refine gun (gv_of (t := 100) rfl rfl rfl) ?_
       refine gun (gv_of (t := 100) rfl rfl rfl) ?_
       refine gun (gv_of (t := 100) rfl rfl rfl) ?_
       refine gun (gv_of (t := 100) rfl rfl rfl) ?_
       refine gun (gv_of (t := 100) rfl rfl rfl) ?_
       refine gun (gv_of (t := 100) rfl rfl rfl) ?_
       refine gun (gv_of (t := 109) rfl rfl rfl) ?_
       refine gun (gv_of (t := 109) rfl rfl rfl) ?_
       refine gun (gv_of (t := 109) rfl rfl rfl) ?_
       refine gun (gv_of (t := 109) rfl rfl rfl) ?_
       refine gun (gv_of (t := 109) rfl rfl rfl) ?_
       refine gun (gv_of (t := 109) rfl rfl rfl) ?_
       refine gun (gv_of (t := 109) rfl rfl rfl) ?_
       refine gun (gv_of (t := 109) rfl rfl rfl) ?_
       refine gun (gv_of (t := 100) rfl rfl rfl) ?_
       refine gun (gv_of (t := 100) rfl rfl rfl) ?_
       refine gun (gv_of (t := 98) rfl rfl rfl) ?_
       refine gno (gv_of (t := 96) rfl rfl rfl) (decide_eq_false hp305) ?_
       refine sy (v := .bool (false)) (y_pickF (v := .bool (false)) rfl (decide_eq_false hp305) rfl) ?_
       refine c_nil ?_
       refine n_then ?_
       refine c_f rfl rfl ?_
       refine wp_skip ?_
       refine n_then ?_
       refine c_seq ?_
       refine c_reg ?_
       refine sy (v := .bool (decide (ahead kind key ((cs.getD i c0).c.k) ((cs.getD i c0).c.key)))) (y_move rfl) ?_
       refine c_nil ?_
       refine n_then ?_
       refine c_t rfl (decide_eq_true (Classical.not_not.1 hp305)) ?_
       refine c_seq ?_
       refine drawSub (.step 0 0 (.step 0 1 (.step 0 2 (.step 0 3 (.step 1 4 (.step 1 5 (.step 1 6 (.step 2 7 (.step 2 8 .nil))))))))) mixed H304 (fun _ h => h.drop) (by kernel_rfl) (by kernel_rfl) (by kernel_rfl) ?_
       intro w399 H400
       refine pt (v := Ad (bs g16) (0 + 1)) rfl (fun wS HS => y_fld Try.underlying41 rfl rfl sz39 (by decide) s10_25) ?_
       refine pt (v := lv) rfl (fun wS HS => y_load sc39 rfl (HS.cell 1 rfl rfl)) ?_
       refine pt (v := v0) rfl (fun wS HS => y_move s0_25) ?_
       refine pt (v := I ((i : Nat) : Int)) rfl (fun wS HS => y_move s11_25) ?_
       refine pl rfl (ow_call fn103 rfl (leafOf_c v0 cs i _ (hC.st H400).nil (by omega) hle) ⟨rfl, rfl, trivial⟩) ?_
       rintro _ w403 ⟨f401, E402, rfl, he405, hf406, H404⟩
       have H407 : St w _ [_, _, _, _, _] w403 := H400.app H404
       have H408 : St w _ [_, _, _, _, _] w403 := H407.foc 4 rfl rfl
       have H409 : St w _ [_, _, _, _, _] w403 := H408.foc 4 rfl rfl
       have H410 : St w _ [_, _, _, _, _] w403 := H409.foc 4 rfl rfl
       have H411 : St w _ [_, _, _] w403 := H410.take 3 rfl
       refine ⟨H411, ?_⟩
       refine pl rfl (ow_buildSlice (pv := [(0, .agg ([I f401.n, I f401.cell.c.k, .string (bst f401.cell.c.key), f401.cell.v, f401.pv]).toArray)]) (us := [I (f401.n), I (f401.cell.c.k), .string (bst f401.cell.c.key), f401.cell.v, f401.pv]) Try.underlying39 sz74 zr74 H407 ⟨⟨rfl, rfl⟩, trivial⟩ (by decide) (by kernel_rfl)) ?_
       rintro _ w413 ⟨g412, rfl, H414⟩
       have H415 : St w _ [_, _, _, _, _, _] w413 := H414.foc 5 rfl rfl
       have H416 : St w _ [_, _, _, _, _, _] w413 := H415.foc 5 rfl rfl
       have H417 : St w _ [_, _, _, _, _, _] w413 := H416.foc 5 rfl rfl
       have H418 : St w _ [_, _, _] w413 := H417.take 3 rfl
       refine ⟨H418, ?_⟩
       have H424 : St w _ [_, _, _, _, _, _] w413 := H414.foc 2 rfl rfl
       refine pl rfl (ow_append (m := 1) (news := [I (f401.n), I (f401.cell.c.k), .string (bst f401.cell.c.key), f401.cell.v, f401.pv]) Try.underlying39 sz74 zr74 bt74 rfl ho H424 rfl rfl (((H424.rd (n := 1) (s := 5) (cap := 1) 1 rfl (by simp) ⟨Nat.le_refl _, by simp [maxLen]⟩).src Try.underlying39 (by intro u hu; simp only [List.mem_cons, List.not_mem_nil, or_false] at hu; rcases hu with rfl | rfl | rfl | rfl | rfl <;> first | rfl | exact Rd.one (LeafP.lr hf406 (H424.foc 2 rfl rfl)).cell.1 | exact Rd.one (LeafP.lr hf406 (H424.foc 2 rfl rfl)).rd))) (by omega) (by omega)) ?_
       rintro v420 w421 ⟨E419, ho423', H422⟩
       have ho423 : OS 74 5 v420 (ls ++ [f401]).length ((ls ++ [f401]).flatMap Lf.cs) E419 := by rw [flat5_snoc, List.length_append]; exact ho423'
       have H425 : St w _ [_, _, _, _, _, _] w421 := H422.foc 5 rfl rfl
       have H426 : St w _ [_, _, _, _, _, _] w421 := H425.foc 5 rfl rfl
       have H427 : St w _ [_, _, _, _, _, _] w421 := H426.foc 5 rfl rfl
       have H428 : St w _ [_, _, _] w421 := H427.take 3 rfl
       refine ⟨H428, ?_⟩
       refine tly (v := Ad (bs g16) (0 + 1)) rfl (y_fld Try.underlying41 rfl rfl sz39 (by decide) s10_25) ?_
       have H429 : St w _ [_, _, _, _, _, _] w421 := H422.foc 4 rfl rfl
       refine t0 rfl (ow_store (j := 1) H429 sz39 rfl rfl (Rd.one (ho423.rd H429 1 rfl)) rfl (by simp)) ?_
       rintro _ w430 H431'
       have H431 : St w _ [[(g16, Rw 41 ([I ((cs.length : Nat) : Int), v420]))], _, _, _, _, _] w430 := H431'
       refine p_nil ?_
       refine n_then ?_
       refine c_seq ?_
       refine c_reg ?_
       refine sy (v := .agg ([I ((cs.length : Nat) : Int), v420]).toArray) (y_loadA (us := [I ((cs.length : Nat) : Int), v420]) ag41 sz41 rfl s10_25 (fun j u hu => (H431.cell 0 rfl (by rw [Nat.zero_add]; exact hu)))) ?_
       have H432 : St w _ [_, _, _, _, _, _] w430 := H431.foc 5 rfl rfl
       refine s0 (ow_storeW (us := [I ((cs.length : Nat) : Int), v420]) H432 sz41 rfl s6_25 rfl (by intro u hu; simp only [List.mem_cons, List.not_mem_nil, or_false] at hu; rcases hu with rfl | rfl <;> first | rfl | exact Rd.one (ho423.rd H432 2 rfl)) (by simp [*])) ?_
       rintro _ w433 H434'
       have H434 : St w _ [[(g1, Rw 41 ([I ((cs.length : Nat) : Int), v420]))], _, _, _, _, _] w433 := H434'
       refine sy (v := I ((0 : Nat) : Int)) (y_assign (v := I ((0 : Nat) : Int)) rfl) ?_
       refine c_nil ?_
       refine n_then ?_
       refine wp_ret ?_
       refine r_block (r_then (r_then (r_block (r_then ?_))))
       refine e_r2 Try.results46 (rv_b H434 (i := 0) rfl ag41 sz41 rfl s6_25) (rv_t rfl) ?_
       have : 0 < plcI kind key cs i := plc_pos.2 (Classical.not_not.1 hp305)
       have : plcI kind key cs i ≠ 0 := fun hh => hp27 (plc_zero.1 hh).1
       have H435 : St w _ [_, _, _, _, _, _] w433 := H434.foc 3 rfl rfl
       have H436 : St w _ [_, _, _, _, _, _] w433 := H435.foc 3 rfl rfl
       have H437 : St w _ [_, _, _, _, _, _] w433 := H436.foc 3 rfl rfl
       have H438 : St w _ [_, _, _, _, _, _] w433 := H437.foc 3 rfl rfl
       have H439 : St w _ [_, _, _, _, _, _] w433 := H438.foc 5 rfl rfl
       have H440 : St w _ [_, _, _, _, _, _] w433 := H439.foc 5 rfl rfl
       obtain ⟨H441, -⟩ := H440.join
       have H442 : St w _ [_, _, _, _, _] w433 := H441.foc 3 rfl rfl
       have H443 : St w _ [_, _, _, _, _] w433 := H442.foc 1 rfl rfl
       have H444 : St w _ [_, _] w433 := H443.take 2 rfl
       obtain ⟨H445, hd446⟩ := H444.join
       exact ⟨_, rfl, _, _, (ls ++ [f401]), 0, _, rfl, .inr (.inr ⟨hkm, hwr, (List.length_map _).symm, rfl, i, isP_mk hi hz (fun _ => by omega), (by rw [at_pos (by omega) (by omega), ← hm, PE, PE, List.map_append]; show _ ++ [f401.e] = _; rw [he405])⟩), ⟨_, _, rfl, ho423, (LeafsP.snoc hf406 hF), hd446, by rw [List.length_append, List.length_singleton]; omega⟩, H445⟩
     ·
      refine wp_skip ?_
      refine n_then ?_
      refine c_seq ?_
      refine c_seq ?_
      refine c_reg ?_
      refine sy (v := .bool (decide (ahead kind key ((cs.getD i c0).c.k) ((cs.getD i c0).c.key)))) (y_move rfl) ?_
      refine sy (v := .bool (decide (¬ (ahead kind key ((cs.getD i c0).c.k) ((cs.getD i c0).c.key))))) (y_notP rfl) ?_
      refine sy (v := .bool (decide (¬ (ahead kind key ((cs.getD i c0).c.k) ((cs.getD i c0).c.key))))) (y_move rfl) ?_
      by_cases hp447 : ¬ (ahead kind key ((cs.getD i c0).c.k) ((cs.getD i c0).c.key))
      ·
       refine gsy (v := .bool (decide ((i + 1) = cs.length))) (gv_of (t := 96) rfl rfl rfl) (decide_eq_true hp447) (y_move rfl) ?_
       refine gsy (v := .bool (decide ((i + 1) = cs.length))) (gv_of (t := 96) rfl rfl rfl) (decide_eq_true hp447) (y_move rfl) ?_
       refine gno (gv_of (t := 98) rfl rfl rfl) (decide_eq_true (Classical.not_not.1 hc299)) ?_
       refine gno (gv_of (t := 98) rfl rfl rfl) (decide_eq_true (Classical.not_not.1 hc299)) ?_
       refine gun (gv_of (t := 100) rfl rfl rfl) ?_
       refine gun (gv_of (t := 100) rfl rfl rfl) ?_
       refine gun (gv_of (t := 100) rfl rfl rfl) ?_
       refine gun (gv_of (t := 100) rfl rfl rfl) ?_
       refine gun (gv_of (t := 100) rfl rfl rfl) ?_
       refine gun (gv_of (t := 100) rfl rfl rfl) ?_
       refine gun (gv_of (t := 100) rfl rfl rfl) ?_
       refine gun (gv_of (t := 100) rfl rfl rfl) ?_
       refine gun (gv_of (t := 100) rfl rfl rfl) ?_
       refine gun (gv_of (t := 109) rfl rfl rfl) ?_
       refine gun (gv_of (t := 109) rfl rfl rfl) ?_
       refine gun (gv_of (t := 109) rfl rfl rfl) ?_
       refine gun (gv_of (t := 109) rfl rfl rfl) ?_
       refine gun (gv_of (t := 109) rfl rfl rfl) ?_
       refine gun (gv_of (t := 109) rfl rfl rfl) ?_
       refine gun (gv_of (t := 109) rfl rfl rfl) ?_
       refine gun (gv_of (t := 109) rfl rfl rfl) ?_
       refine gun (gv_of (t := 100) rfl rfl rfl) ?_
       refine gun (gv_of (t := 100) rfl rfl rfl) ?_
       refine gno (gv_of (t := 98) rfl rfl rfl) (decide_eq_true (Classical.not_not.1 hc299)) ?_
       refine gsy (v := .bool (true)) (gv_of (t := 96) rfl rfl rfl) (decide_eq_true hp447) (y_pickT (v := .bool (true)) rfl (decide_eq_true (Classical.not_not.1 hc299)) rfl) ?_
       refine sy (v := .bool (true)) (y_pickT rfl (decide_eq_true hp447) rfl) ?_
       refine c_nil ?_
       refine n_then ?_
       refine c_t rfl rfl ?_
       refine drawSub (.step 0 0 (.step 0 1 (.step 0 2 (.step 0 3 (.step 1 4 (.step 1 5 (.step 1 6 (.step 2 7 (.step 2 8 .nil))))))))) mixed H298 (fun _ h => h.drop) (by kernel_rfl) (by kernel_rfl) (by kernel_rfl) ?_
       intro w448 H449
       refine pt (v := Ad (bs g16) (0 + 1)) rfl (fun wS HS => y_fld Try.underlying41 rfl rfl sz39 (by decide) s10_25) ?_
       refine pt (v := lv) rfl (fun wS HS => y_load sc39 rfl (HS.cell 1 rfl rfl)) ?_
       refine pt (v := v0) rfl (fun wS HS => y_move s0_25) ?_
       refine pt (v := I ((i : Nat) : Int)) rfl (fun wS HS => y_move s11_25) ?_
       refine pl rfl (ow_call fn103 rfl (leafOf_c v0 cs i _ (hC.st H449).nil (by omega) hle) ⟨rfl, rfl, trivial⟩) ?_
       rintro _ w452 ⟨f450, E451, rfl, he454, hf455, H453⟩
       have H456 : St w _ [_, _, _, _, _] w452 := H449.app H453
       have H457 : St w _ [_, _, _, _, _] w452 := H456.foc 4 rfl rfl
       have H458 : St w _ [_, _, _, _, _] w452 := H457.foc 4 rfl rfl
       have H459 : St w _ [_, _, _, _, _] w452 := H458.foc 4 rfl rfl
       have H460 : St w _ [_, _, _] w452 := H459.take 3 rfl
       refine ⟨H460, ?_⟩
       refine pl rfl (ow_buildSlice (pv := [(0, .agg ([I f450.n, I f450.cell.c.k, .string (bst f450.cell.c.key), f450.cell.v, f450.pv]).toArray)]) (us := [I (f450.n), I (f450.cell.c.k), .string (bst f450.cell.c.key), f450.cell.v, f450.pv]) Try.underlying39 sz74 zr74 H456 ⟨⟨rfl, rfl⟩, trivial⟩ (by decide) (by kernel_rfl)) ?_
       rintro _ w462 ⟨g461, rfl, H463⟩
       have H464 : St w _ [_, _, _, _, _, _] w462 := H463.foc 5 rfl rfl
       have H465 : St w _ [_, _, _, _, _, _] w462 := H464.foc 5 rfl rfl
       have H466 : St w _ [_, _, _, _, _, _] w462 := H465.foc 5 rfl rfl
       have H467 : St w _ [_, _, _] w462 := H466.take 3 rfl
       refine ⟨H467, ?_⟩
       have H473 : St w _ [_, _, _, _, _, _] w462 := H463.foc 2 rfl rfl
       refine pl rfl (ow_append (m := 1) (news := [I (f450.n), I (f450.cell.c.k), .string (bst f450.cell.c.key), f450.cell.v, f450.pv]) Try.underlying39 sz74 zr74 bt74 rfl ho H473 rfl rfl (((H473.rd (n := 1) (s := 5) (cap := 1) 1 rfl (by simp) ⟨Nat.le_refl _, by simp [maxLen]⟩).src Try.underlying39 (by intro u hu; simp only [List.mem_cons, List.not_mem_nil, or_false] at hu; rcases hu with rfl | rfl | rfl | rfl | rfl <;> first | rfl | exact Rd.one (LeafP.lr hf455 (H473.foc 2 rfl rfl)).cell.1 | exact Rd.one (LeafP.lr hf455 (H473.foc 2 rfl rfl)).rd))) (by omega) (by omega)) ?_
       rintro v469 w470 ⟨E468, ho472', H471⟩
       have ho472 : OS 74 5 v469 (ls ++ [f450]).length ((ls ++ [f450]).flatMap Lf.cs) E468 := by rw [flat5_snoc, List.length_append]; exact ho472'
       have H474 : St w _ [_, _, _, _, _, _] w470 := H471.foc 5 rfl rfl
       have H475 : St w _ [_, _, _, _, _, _] w470 := H474.foc 5 rfl rfl
       have H476 : St w _ [_, _, _, _, _, _] w470 := H475.foc 5 rfl rfl
       have H477 : St w _ [_, _, _] w470 := H476.take 3 rfl
       refine ⟨H477, ?_⟩
       refine tly (v := Ad (bs g16) (0 + 1)) rfl (y_fld Try.underlying41 rfl rfl sz39 (by decide) s10_25) ?_
       have H478 : St w _ [_, _, _, _, _, _] w470 := H471.foc 4 rfl rfl
       refine t0 rfl (ow_store (j := 1) H478 sz39 rfl rfl (Rd.one (ho472.rd H478 1 rfl)) rfl (by simp)) ?_
       rintro _ w479 H480'
       have H480 : St w _ [[(g16, Rw 41 ([I ((cs.length : Nat) : Int), v469]))], _, _, _, _, _] w479 := H480'
       refine p_nil ?_
       refine n_then ?_
       refine c_seq ?_
       refine c_reg ?_
       refine sy (v := .bool (decide (ahead kind key ((cs.getD i c0).c.k) ((cs.getD i c0).c.key)))) (y_move rfl) ?_
       refine c_nil ?_
       refine n_then ?_
       refine c_f rfl (decide_eq_false hp447) ?_
       refine wp_skip ?_
       refine n_block (n_then ?_)
       refine c_reg ?_
       refine sy (v := I ((i : Nat) : Int)) (y_move s11_25) ?_
       refine sy (v := I ((i + 1 : Nat) : Int)) (n_add (a := i) (b := 1) rfl rfl (by omega)) ?_
       refine sy (v := I ((i + 1 : Nat) : Int)) (y_assign rfl) ?_
       refine c_nil ?_
       have H481 : St w _ [_, _, _, _, _, _] w479 := H480.foc 5 rfl rfl
       have H482 : St w _ [_, _, _, _, _, _] w479 := H481.foc 3 rfl rfl
       have H483 : St w _ [_, _, _, _, _, _] w479 := H482.foc 3 rfl rfl
       have H484 : St w _ [_, _, _, _, _, _] w479 := H483.foc 3 rfl rfl
       have H485 : St w _ [_, _, _, _, _, _] w479 := H484.foc 5 rfl rfl
       have H486 : St w _ [_, _, _, _, _, _] w479 := H485.foc 5 rfl rfl
       obtain ⟨H487, -⟩ := H486.join
       have H488 : St w _ [_, _, _, _, _] w479 := H487.foc 4 rfl rfl
       have H489 : St w _ [_, _, _, _, _] w479 := H488.foc 2 rfl rfl
       have H490 : St w _ [_, _, _, _, _] w479 := H489.foc 2 rfl rfl
       have H491 : St w _ [_, _, _, _, _] w479 := H490.foc 3 rfl rfl
       have H492 : St w _ [_, _, _, _] w479 := H491.take 4 rfl
       have : ¬ 0 < plcI kind key cs i := fun hh => hp447 (plc_pos.1 hh)
       have : plcI kind key cs i ≠ 0 := fun hh => hp27 (plc_zero.1 hh).1
       have hlt : plcI kind key cs i < 0 := by omega
       have hls0 : ls = [] := by
        have h := hm
        rw [mid_no (by omega)] at h
        exact List.map_eq_nil_iff.1 h
       exact lp_next (i + 1) ⟨v469, E468, (F ++ E451), (ls ++ [f450]), s0_25, s1_25, s2_25, s6_25, s10_25, rfl, (by omega), (fun j hj => by
        by_cases e : j = i
        · rw [e]; exact hlt
        · exact hz j (by omega)), ho472, (LeafsP.snoc hf455 hF), (by rw [hls0]; simp), (by rw [mid_yes (by omega), hls0]; show [f450.e] = _; rw [he454]; rfl), H492⟩ (by show _ < _; omega)
      ·
       refine gno (gv_of (t := 96) rfl rfl rfl) (decide_eq_false hp447) ?_
       refine gno (gv_of (t := 96) rfl rfl rfl) (decide_eq_false hp447) ?_
       refine gun (gv_of (t := 98) rfl rfl rfl) ?_
       refine gun (gv_of (t := 98) rfl rfl rfl) ?_
       refine gun (gv_of (t := 100) rfl rfl rfl) ?_
       refine gun (gv_of (t := 100) rfl rfl rfl) ?_
       refine gun (gv_of (t := 100) rfl rfl rfl) ?_
       refine gun (gv_of (t := 100) rfl rfl rfl) ?_
       refine gun (gv_of (t := 100) rfl rfl rfl) ?_
       refine gun (gv_of (t := 100) rfl rfl rfl) ?_
       refine gun (gv_of (t := 100) rfl rfl rfl) ?_
       refine gun (gv_of (t := 100) rfl rfl rfl) ?_
       refine gun (gv_of (t := 100) rfl rfl rfl) ?_
       refine gun (gv_of (t := 109) rfl rfl rfl) ?_
       refine gun (gv_of (t := 109) rfl rfl rfl) ?_
       refine gun (gv_of (t := 109) rfl rfl rfl) ?_
       refine gun (gv_of (t := 109) rfl rfl rfl) ?_
       refine gun (gv_of (t := 109) rfl rfl rfl) ?_
       refine gun (gv_of (t := 109) rfl rfl rfl) ?_
       refine gun (gv_of (t := 109) rfl rfl rfl) ?_
       refine gun (gv_of (t := 109) rfl rfl rfl) ?_
       refine gun (gv_of (t := 100) rfl rfl rfl) ?_
       refine gun (gv_of (t := 100) rfl rfl rfl) ?_
       refine gun (gv_of (t := 98) rfl rfl rfl) ?_
       refine gno (gv_of (t := 96) rfl rfl rfl) (decide_eq_false hp447) ?_
       refine sy (v := .bool (false)) (y_pickF (v := .bool (false)) rfl (decide_eq_false hp447) rfl) ?_
       refine c_nil ?_
       refine n_then ?_
       refine c_f rfl rfl ?_
       refine wp_skip ?_
       refine n_then ?_
       refine c_seq ?_
       refine c_reg ?_
       refine sy (v := .bool (decide (ahead kind key ((cs.getD i c0).c.k) ((cs.getD i c0).c.key)))) (y_move rfl) ?_
       refine c_nil ?_
       refine n_then ?_
       refine c_t rfl (decide_eq_true (Classical.not_not.1 hp447)) ?_
       refine c_seq ?_
       refine drawSub (.step 0 0 (.step 0 1 (.step 0 2 (.step 0 3 (.step 1 4 (.step 1 5 (.step 1 6 (.step 2 7 (.step 2 8 .nil))))))))) mixed H298 (fun _ h => h.drop) (by kernel_rfl) (by kernel_rfl) (by kernel_rfl) ?_
       intro w493 H494
       refine pt (v := Ad (bs g16) (0 + 1)) rfl (fun wS HS => y_fld Try.underlying41 rfl rfl sz39 (by decide) s10_25) ?_
       refine pt (v := lv) rfl (fun wS HS => y_load sc39 rfl (HS.cell 1 rfl rfl)) ?_
       refine pt (v := v0) rfl (fun wS HS => y_move s0_25) ?_
       refine pt (v := I ((i : Nat) : Int)) rfl (fun wS HS => y_move s11_25) ?_
       refine pl rfl (ow_call fn103 rfl (leafOf_c v0 cs i _ (hC.st H494).nil (by omega) hle) ⟨rfl, rfl, trivial⟩) ?_
       rintro _ w497 ⟨f495, E496, rfl, he499, hf500, H498⟩
       have H501 : St w _ [_, _, _, _, _] w497 := H494.app H498
       have H502 : St w _ [_, _, _, _, _] w497 := H501.foc 4 rfl rfl
       have H503 : St w _ [_, _, _, _, _] w497 := H502.foc 4 rfl rfl
       have H504 : St w _ [_, _, _, _, _] w497 := H503.foc 4 rfl rfl
       have H505 : St w _ [_, _, _] w497 := H504.take 3 rfl
       refine ⟨H505, ?_⟩
       refine pl rfl (ow_buildSlice (pv := [(0, .agg ([I f495.n, I f495.cell.c.k, .string (bst f495.cell.c.key), f495.cell.v, f495.pv]).toArray)]) (us := [I (f495.n), I (f495.cell.c.k), .string (bst f495.cell.c.key), f495.cell.v, f495.pv]) Try.underlying39 sz74 zr74 H501 ⟨⟨rfl, rfl⟩, trivial⟩ (by decide) (by kernel_rfl)) ?_
       rintro _ w507 ⟨g506, rfl, H508⟩
       have H509 : St w _ [_, _, _, _, _, _] w507 := H508.foc 5 rfl rfl
       have H510 : St w _ [_, _, _, _, _, _] w507 := H509.foc 5 rfl rfl
       have H511 : St w _ [_, _, _, _, _, _] w507 := H510.foc 5 rfl rfl
       have H512 : St w _ [_, _, _] w507 := H511.take 3 rfl
       refine ⟨H512, ?_⟩
       have H518 : St w _ [_, _, _, _, _, _] w507 := H508.foc 2 rfl rfl
       refine pl rfl (ow_append (m := 1) (news := [I (f495.n), I (f495.cell.c.k), .string (bst f495.cell.c.key), f495.cell.v, f495.pv]) Try.underlying39 sz74 zr74 bt74 rfl ho H518 rfl rfl (((H518.rd (n := 1) (s := 5) (cap := 1) 1 rfl (by simp) ⟨Nat.le_refl _, by simp [maxLen]⟩).src Try.underlying39 (by intro u hu; simp only [List.mem_cons, List.not_mem_nil, or_false] at hu; rcases hu with rfl | rfl | rfl | rfl | rfl <;> first | rfl | exact Rd.one (LeafP.lr hf500 (H518.foc 2 rfl rfl)).cell.1 | exact Rd.one (LeafP.lr hf500 (H518.foc 2 rfl rfl)).rd))) (by omega) (by omega)) ?_
       rintro v514 w515 ⟨E513, ho517', H516⟩
       have ho517 : OS 74 5 v514 (ls ++ [f495]).length ((ls ++ [f495]).flatMap Lf.cs) E513 := by rw [flat5_snoc, List.length_append]; exact ho517'
       have H519 : St w _ [_, _, _, _, _, _] w515 := H516.foc 5 rfl rfl
       have H520 : St w _ [_, _, _, _, _, _] w515 := H519.foc 5 rfl rfl
       have H521 : St w _ [_, _, _, _, _, _] w515 := H520.foc 5 rfl rfl
       have H522 : St w _ [_, _, _] w515 := H521.take 3 rfl
       refine ⟨H522, ?_⟩
       refine tly (v := Ad (bs g16) (0 + 1)) rfl (y_fld Try.underlying41 rfl rfl sz39 (by decide) s10_25) ?_
       have H523 : St w _ [_, _, _, _, _, _] w515 := H516.foc 4 rfl rfl
       refine t0 rfl (ow_store (j := 1) H523 sz39 rfl rfl (Rd.one (ho517.rd H523 1 rfl)) rfl (by simp)) ?_
       rintro _ w524 H525'
       have H525 : St w _ [[(g16, Rw 41 ([I ((cs.length : Nat) : Int), v514]))], _, _, _, _, _] w524 := H525'
       refine p_nil ?_
       refine n_then ?_
       refine c_seq ?_
       refine c_reg ?_
       refine sy (v := .agg ([I ((cs.length : Nat) : Int), v514]).toArray) (y_loadA (us := [I ((cs.length : Nat) : Int), v514]) ag41 sz41 rfl s10_25 (fun j u hu => (H525.cell 0 rfl (by rw [Nat.zero_add]; exact hu)))) ?_
       have H526 : St w _ [_, _, _, _, _, _] w524 := H525.foc 5 rfl rfl
       refine s0 (ow_storeW (us := [I ((cs.length : Nat) : Int), v514]) H526 sz41 rfl s6_25 rfl (by intro u hu; simp only [List.mem_cons, List.not_mem_nil, or_false] at hu; rcases hu with rfl | rfl <;> first | rfl | exact Rd.one (ho517.rd H526 2 rfl)) (by simp [*])) ?_
       rintro _ w527 H528'
       have H528 : St w _ [[(g1, Rw 41 ([I ((cs.length : Nat) : Int), v514]))], _, _, _, _, _] w527 := H528'
       refine sy (v := I ((0 : Nat) : Int)) (y_assign (v := I ((0 : Nat) : Int)) rfl) ?_
       refine c_nil ?_
       refine n_then ?_
       refine wp_ret ?_
       refine r_block (r_then (r_then (r_block (r_then ?_))))
       refine e_r2 Try.results46 (rv_b H528 (i := 0) rfl ag41 sz41 rfl s6_25) (rv_t rfl) ?_
       have : 0 < plcI kind key cs i := plc_pos.2 (Classical.not_not.1 hp447)
       have : plcI kind key cs i ≠ 0 := fun hh => hp27 (plc_zero.1 hh).1
       have H529 : St w _ [_, _, _, _, _, _] w527 := H528.foc 3 rfl rfl
       have H530 : St w _ [_, _, _, _, _, _] w527 := H529.foc 3 rfl rfl
       have H531 : St w _ [_, _, _, _, _, _] w527 := H530.foc 3 rfl rfl
       have H532 : St w _ [_, _, _, _, _, _] w527 := H531.foc 3 rfl rfl
       have H533 : St w _ [_, _, _, _, _, _] w527 := H532.foc 5 rfl rfl
       have H534 : St w _ [_, _, _, _, _, _] w527 := H533.foc 5 rfl rfl
       obtain ⟨H535, -⟩ := H534.join
       have H536 : St w _ [_, _, _, _, _] w527 := H535.foc 3 rfl rfl
       have H537 : St w _ [_, _, _, _, _] w527 := H536.foc 1 rfl rfl
       have H538 : St w _ [_, _] w527 := H537.take 2 rfl
       obtain ⟨H539, hd540⟩ := H538.join
       exact ⟨_, rfl, _, _, (ls ++ [f495]), 0, _, rfl, .inr (.inr ⟨hkm, hwr, (List.length_map _).symm, rfl, i, isP_mk hi hz (fun _ => by omega), (by rw [at_pos (by omega) (by omega), ← hm, PE, PE, List.map_append]; show _ ++ [f495.e] = _; rw [he499])⟩), ⟨_, _, rfl, ho517, (LeafsP.snoc hf500 hF), hd540, by rw [List.length_append, List.length_singleton]; omega⟩, H539⟩
   ·
    refine wp_exit ?_
    refine x_then (x_then (x_hit (n_then ?_)))
    refine c_seq ?_
    refine c_reg ?_
    refine sy (v := .agg ([I ((cs.length : Nat) : Int), lv]).toArray) (y_loadA (us := [I ((cs.length : Nat) : Int), lv]) ag41 sz41 rfl s10_25 (fun j u hu => (H25.cell 2 rfl (by rw [Nat.zero_add]; exact hu)))) ?_
    have H541 : St w _ [_, _, _, _] w24 := H25.foc 3 rfl rfl
    refine s0 (ow_storeW (us := [I ((cs.length : Nat) : Int), lv]) H541 sz41 rfl s6_25 rfl (by intro u hu; simp only [List.mem_cons, List.not_mem_nil, or_false] at hu; rcases hu with rfl | rfl <;> first | rfl | exact Rd.one (ho.rd H541 1 rfl)) (by simp [*])) ?_
    rintro _ w542 H543'
    have H543 : St w _ [[(g1, Rw 41 ([I ((cs.length : Nat) : Int), lv]))], _, _, _] w542 := H543'
    refine sy (v := I ((0 : Nat) : Int)) (y_assign (v := I ((0 : Nat) : Int)) rfl) ?_
    refine c_nil ?_
    refine n_then ?_
    refine wp_ret ?_
    refine e_r2 Try.results46 (rv_b H543 (i := 0) rfl ag41 sz41 rfl s6_25) (rv_t rfl) ?_
    obtain rfl : i = cs.length := by omega
    have H544 : St w _ [_, _, _, _] w542 := H543.foc 1 rfl rfl
    have H545 : St w _ [_, _, _, _] w542 := H544.foc 2 rfl rfl
    have H546 : St w _ [_, _] w542 := H545.take 2 rfl
    obtain ⟨H547, hd548⟩ := H546.join
    exact ⟨_, rfl, _, _, ls, 0, _, rfl, .inr (.inr ⟨hkm, hwr, (List.length_map _).symm, rfl, cs.length, isP_mk (Nat.le_refl _) hz (fun h => absurd h (Nat.lt_irrefl _)), (by rw [at_end]; exact hm)⟩), ⟨_, _, rfl, ho, hF, hd548, by omega⟩, H547⟩

end Go.Proofs.Ytdcmbcjkdhdohaa
