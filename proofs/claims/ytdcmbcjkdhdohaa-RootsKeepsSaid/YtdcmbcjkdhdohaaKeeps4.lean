/- Walks: copied, stays. -/
import Derived.Test.YtdcmbcjkdhdohaaRootsI
import Derived.Test.YtdcmbcjkdhdohaaRoots15
namespace Go.Proofs.Ytdcmbcjkdhdohaa
open Go Go.RowKit
set_option linter.unusedSimpArgs false
set_option linter.unusedVariables false
attribute [local irreducible] wpList wpP Code.wp

theorem LeafW.ones {f : Lf} {F : Part} (h : LeafW f F) : ∀ u ∈ f.cs, u.oneCell' = true := by
  obtain ⟨F1, F2, rfl, ⟨g1, c1, _, h1, -⟩, ⟨g2, c2, _, h2, -⟩, -⟩ := h
  intro u hu
  simp only [Lf.cs, List.mem_cons, List.not_mem_nil, or_false] at hu
  rcases hu with rfl | rfl | rfl | rfl | rfl
  · rfl
  · rfl
  · rfl
  · rw [h1]; rfl
  · rw [h2]; rfl
theorem LeafsW.ones : ∀ {fs : List Lf} {F : Part}, LeafsW fs F → ∀ u ∈ fs.flatMap Lf.cs, u.oneCell' = true
  | [], _, _, u, hu => absurd hu (by simp)
  | f :: fs, _, ⟨F1, F2, _, h1, h2, _⟩, u, hu => by
    rw [List.flatMap_cons] at hu
    rcases List.mem_append.1 hu with hu | hu
    · exact h1.ones u hu
    · exact LeafsW.ones h2 u hu
theorem pe_snoc {ds : List Lf} {f : Lf} {ls : List Lf} {i : Nat} (h : PE ds = (PE ls).take i) (hi : i < ls.length) (hf : f.e = (ls.getD i lf0).e) : PE (ds ++ [f]) = (PE ls).take (i + 1) := by
  rw [PE, List.map_append, ← PE, h, List.take_add_one, List.getElem?_map, List.getElem?_eq_getElem hi]
  rw [List.getD_eq_getElem?_getD, List.getElem?_eq_getElem hi] at hf
  show _ ++ [f.e] = _ ++ [(ls[i]).e]
  rw [hf]; rfl

attribute [local irreducible] leafH innerH topH rootH rootA sha checkA

set_option maxHeartbeats 2000000 in
set_option maxRecDepth 20000 in
theorem copied_c (n : Int) (lv : Value) (ls : List Lf) (w : World) (hL : LsR [] w lv ls) :
    Calls Try.prog 49 (([.agg ([I n, lv]).toArray] : List Value).toArray) w (fun e w' => ∃ v, e = .returned v ∧ ∃ (v' : Value) (ds : List Lf) (EB : Part), v = .agg ([I n, v'] : List Value).toArray ∧ LsC v' ds EB ∧ PE ds = PE ls ∧ St w [] [EB] w') := by
 have hle := hL.le
 refine calls_mk Try.func49 rfl 60 Try.ntmps49 rfl ?_
 have H0 : St w [] [] w := St.refl w
 refine c_seq ?_
 refine c_reg ?_
 refine st (ow_box (l := [I (n), lv]) H0 rfl rfl) ?_
 rintro _ w2 ⟨g1, rfl, H3⟩
 refine st (ow_alloc (l := [I ((0 : Nat) : Int), .slice none 0 0]) H3 zr41 rfl) ?_
 rintro _ w5 ⟨g4, rfl, H6⟩
 refine c_nil ?_
 refine n_then ?_
 refine c_seq ?_
 refine c_reg ?_
 refine sy (v := Ad (bs g1) (0 + 0)) (y_fld Try.underlying41 rfl rfl sz3 (by decide) rfl) ?_
 refine sy (v := I (n)) (y_load sc3 rfl (H6.cell 1 rfl rfl)) ?_
 refine sy (v := .agg ([I n, .slice none 0 0]).toArray) (y_build (pv := [(0, I (n))]) (us := [I (n), .slice none 0 0]) ⟨⟨rfl, rfl⟩, trivial⟩ (by kernel_rfl)) ?_
 refine st (ow_alloc (l := [I ((0 : Nat) : Int), .slice none 0 0]) H6 zr41 rfl) ?_
 rintro _ w8 ⟨g7, rfl, H9⟩
 refine s0 (ow_storeW (us := [I (n), .slice none 0 0]) H9 sz41 rfl rfl rfl (by simp [Value.oneCell']) (by simp [*])) ?_
 rintro _ w10 H11'
 have H11 : St w _ [[(g7, Rw 41 ([I (n), .slice none 0 0]))], _, _] w10 := H11'
 refine c_nil ?_
 refine n_then ?_
 refine c_seq ?_
 refine c_seq ?_
 have H12 : St w _ [_, _, _, _] w10 := H11.nilp
 have H13 : St w _ [_, _, _, _, _] w10 := H12.nilp
 refine c_reg ?_
 refine sy (v := I ((0 : Nat) : Int)) (y_assign (v := I ((0 : Nat) : Int)) rfl) ?_
 refine c_nil ?_
 refine n_then ?_
 refine wp_block ?_
 refine c_loop (fun (i : Nat) f14 w15 => ∃ (lw : Value), ∃ (E : Part), ∃ (F : Part), ∃ (ds : List Lf), f14 1 = Ad (bs g1) (0) ∧ f14 2 = Ad (bs g4) (0) ∧ f14 3 = Ad (bs g7) (0) ∧ f14 4 = I ((i : Nat) : Int) ∧ i ≤ ls.length ∧ OS 74 5 lw ds.length (ds.flatMap Lf.cs) E ∧ LeafsW ds F ∧ ds.length = i ∧ PE ds = (PE ls).take i ∧ St w [] [E, F, [(g7, Rw 41 ([I (n), lw]))], [(g4, Rw 41 ([I ((0 : Nat) : Int), .slice none 0 0]))], [(g1, Rw 41 ([I (n), lv]))]] w15) (fun i => ls.length - i) 0 ⟨(.slice none 0 0), [], [], [], rfl, rfl, rfl, rfl, (Nat.zero_le _), (OS.nil 74 5), rfl, rfl, rfl, H13⟩ ?_
 rintro i f14 w15 ⟨lw, E, F, ds, s1_16, s2_16, s3_16, s4_16, hi, ho, hF, hdl, hpe, H16⟩
 refine c_seq ?_
 refine c_seq ?_
 refine c_reg ?_
 refine sy (v := I ((i : Nat) : Int)) (y_move s4_16) ?_
 refine sy (v := Ad (bs g1) (0 + 1)) (y_fld Try.underlying41 rfl rfl sz39 (by decide) s1_16) ?_
 refine sy (v := lv) (y_load sc39 rfl (H16.cell 4 rfl rfl)) ?_
 refine sy (v := I ((ls.length : Nat) : Int)) (y_lenR Try.underlying39 (hL.st H16).rd rfl) ?_
 refine sy (v := .bool (decide (i < ls.length))) (n_lss (a := i) (b := ls.length) rfl rfl) ?_
 refine c_nil ?_
 refine n_then ?_
 refine c_if rfl (fun hc17 => ?_) (fun hc17 => ?_)
 ·
  refine wp_skip ?_
  refine n_then ?_
  refine c_seq ?_
  refine wp_block ?_
  refine c_seq ?_
  have hlr := hL.at (d := lf0) (i := i) (by omega)
  have hlp := hlr.le
  have hsm := hlr.cell.2
  have hsm2 := hsm.2
  refine c_reg ?_
  refine sy (v := Ad (bs g1) (0 + 1)) (y_fld Try.underlying41 rfl rfl sz39 (by decide) s1_16) ?_
  refine sy (v := lv) (y_load sc39 rfl (H16.cell 4 rfl rfl)) ?_
  refine sy (v := I ((i : Nat) : Int)) (y_move s4_16) ?_
  refine sy (v := Ad (sp (lv)) (i * 5)) (y_ixR (m := i) Try.underlying39 sz74 (hL.st H16).rd (by decide) rfl rfl rfl (by omega)) ?_
  refine sy (v := .agg ([I ((ls.getD i lf0).n), I (((ls.getD i lf0).cell).c.k), .string (bst (((ls.getD i lf0).cell).c.key)), ((ls.getD i lf0).cell).v, (ls.getD i lf0).pv]).toArray) (y_loadA (us := (ls.getD i lf0).cs) ag74 sz74 rfl rfl (fun j u hu => (hL.st H16).rd.cell _ _ (flat5_get (by omega) hu))) ?_
  refine st (ow_alloc (l := [I ((0 : Nat) : Int), I ((0 : Nat) : Int), .string (.empty), .slice none 0 0, .slice none 0 0]) H16 zr74 rfl) ?_
  rintro _ w19 ⟨g18, rfl, H20⟩
  refine s0 (ow_storeW (us := [I ((ls.getD i lf0).n), I (((ls.getD i lf0).cell).c.k), .string (bst (((ls.getD i lf0).cell).c.key)), ((ls.getD i lf0).cell).v, (ls.getD i lf0).pv]) H20 sz74 rfl rfl rfl (by intro u hu; simp only [List.mem_cons, List.not_mem_nil, or_false] at hu; rcases hu with rfl | rfl | rfl | rfl | rfl <;> first | rfl | exact Rd.one (((hL.at (d := lf0) (i := i) (by omega)).cell).1.st H20) | exact Rd.one ((hL.at (d := lf0) (i := i) (by omega)).rd.st H20)) (by simp [*])) ?_
  rintro _ w21 H22'
  have H22 : St w _ [[(g18, Rw 74 ([I ((ls.getD i lf0).n), I (((ls.getD i lf0).cell).c.k), .string (bst (((ls.getD i lf0).cell).c.key)), ((ls.getD i lf0).cell).v, (ls.getD i lf0).pv]))], _, _, _, _, _] w21 := H22'
  refine c_nil ?_
  refine n_then ?_
  refine c_seq ?_
  refine c_reg ?_
  refine sy (v := Ad (bs g18) (0 + 4)) (y_fld Try.underlying74 rfl rfl sz72 (by decide) rfl) ?_
  refine sy (v := (ls.getD i lf0).pv) (y_load sc72 rfl (H22.cell 0 rfl rfl)) ?_
  refine st (ow_appH (hs := ([] : List (List UInt8))) (ks := (ls.getD i lf0).path) Try.underlying72 sz26 zr26 bt26 rfl Try.underlying72 (OS.nil 26 32) (H22.nilp) rfl rfl ((hL.at (d := lf0) (i := i) (by omega)).rd.st H22) (by first | omega | (simp only [List.length_append, List.length_cons, List.length_nil]; omega))) ?_
  rintro v24 w25 ⟨E23, ho27, H26⟩
  have hh28 : H32 ((ls.getD i lf0).path) := (hL.at (d := lf0) (i := i) (by omega)).h32
  refine sy (v := .agg (hmk.map B8).toArray) (y_build (pv := [(3, B8 (3))]) (us := hmk.map B8) ⟨⟨rfl, rfl⟩, trivial⟩ (by kernel_rfl)) ?_
  refine st (ow_lit1 (h := hmk) Try.underlying72 sz26 zr26 H26 rfl hmk_len) ?_
  rintro _ w30 ⟨g29, rfl, H31⟩
  have hh32 : H32 [hmk] := hh_one hmk_len
  have H39 : St w _ [_, _, _, _, _, _, _, _] w30 := H31.foc 1 rfl rfl
  refine st (ow_appH (hs := ((ls.getD i lf0).path)) (ks := [hmk]) Try.underlying72 sz26 zr26 bt26 rfl Try.underlying72 ho27 H39 rfl rfl (rd_hblk H39 1 rfl hh32 rfl (by unfold maxLen; omega)) (by first | omega | (simp only [List.length_append, List.length_cons, List.length_nil]; omega))) ?_
  rintro v34 w35 ⟨E33, ho37, H36⟩
  have hh38 : H32 (((ls.getD i lf0).path) ++ ([hmk])) := hh_app hh28 hh32
  refine sy (v := v34) (y_assign rfl) ?_
  refine c_nil ?_
  refine n_then ?_
  refine c_seq ?_
  refine c_reg ?_
  refine sy (v := v34) (y_move rfl) ?_
  refine sy (v := Ad (bs g18) (0 + 4)) (y_fld Try.underlying74 rfl rfl sz72 (by decide) rfl) ?_
  refine sy (v := (ls.getD i lf0).pv) (y_load sc72 rfl (H36.cell 2 rfl rfl)) ?_
  refine sy (v := I (((ls.getD i lf0).path.length : Nat) : Int)) (y_lenR Try.underlying72 ((hL.at (d := lf0) (i := i) (by omega)).rd.st H36) rfl) ?_
  refine sy (v := slv 32 0 ((ls.getD i lf0).path.length) v34) (y_slR (k1 := .i64) (k2 := .i64) (l := 0) (h := (ls.getD i lf0).path.length) Try.underlying72 sz26 (ho37.rd H36 0 rfl) rfl (.inl ⟨rfl, rfl⟩) (.inr ⟨_, rfl, rfl⟩) (by omega) (by rw [List.length_append]; omega)) ?_
  refine sy (v := Ad (bs g18) (0 + 4)) (y_fld Try.underlying74 rfl rfl sz72 (by decide) rfl) ?_
  have H40 : St w _ [_, _, _, _, _, _, _, _] w35 := H36.foc 2 rfl rfl
  refine s0 (ow_store (j := 4) H40 sz72 rfl rfl (Rd.one (Rd.slv (ho37.rd H40 1 rfl) (Nat.zero_le _) (by rw [List.length_append]; omega))) rfl (by simp)) ?_
  rintro _ w41 H42'
  have H42 : St w _ [[(g18, Rw 74 ([I ((ls.getD i lf0).n), I (((ls.getD i lf0).cell).c.k), .string (bst (((ls.getD i lf0).cell).c.key)), ((ls.getD i lf0).cell).v, slv 32 0 ((ls.getD i lf0).path.length) v34]))], _, _, _, _, _, _, _] w41 := H42'
  refine c_nil ?_
  refine n_then ?_
  refine c_seq ?_
  refine c_reg ?_
  refine sy (v := Ad (bs g18) (0 + 1)) (y_fld Try.underlying74 rfl rfl sz48 (by decide) rfl) ?_
  refine sy (v := Ad (bs g18) ((0 + 1) + 2)) (y_fld Try.underlying48 rfl rfl sz23 (by decide) rfl) ?_
  refine sy (v := ((ls.getD i lf0).cell).v) (y_load sc23 rfl (H42.cell 0 rfl rfl)) ?_
  refine st (ow_call fn102 rfl (Wide_c (((ls.getD i lf0).cell).v) (((ls.getD i lf0).cell).c.l) _ ((((hL.at (d := lf0) (i := i) (by omega)).cell).1.st H42)).nil (by omega)) ⟨rfl, trivial⟩) ?_
  rintro v43 w45 ⟨E44, hw47, H46⟩
  have H48 : St w _ [_, _, _, _, _, _, _, _, _] w45 := H42.app H46
  refine sy (v := Ad (bs g18) (0 + 1)) (y_fld Try.underlying74 rfl rfl sz48 (by decide) rfl) ?_
  refine sy (v := Ad (bs g18) ((0 + 1) + 2)) (y_fld Try.underlying48 rfl rfl sz23 (by decide) rfl) ?_
  have H49 : St w _ [_, _, _, _, _, _, _, _, _] w45 := H48.foc 1 rfl rfl
  refine s0 (ow_store (j := 3) H49 sz23 rfl rfl (Rd.one ((WideP.os hw47).rd H49 1 rfl)) rfl (by simp)) ?_
  rintro _ w50 H51'
  have H51 : St w _ [[(g18, Rw 74 ([I ((ls.getD i lf0).n), I (((ls.getD i lf0).cell).c.k), .string (bst (((ls.getD i lf0).cell).c.key)), v43, slv 32 0 ((ls.getD i lf0).path.length) v34]))], _, _, _, _, _, _, _, _] w50 := H51'
  refine c_nil ?_
  refine n_then ?_
  refine c_reg ?_
  refine sy (v := Ad (bs g7) (0 + 1)) (y_fld Try.underlying41 rfl rfl sz39 (by decide) s3_16) ?_
  refine sy (v := lw) (y_load sc39 rfl (H51.cell 6 rfl rfl)) ?_
  refine sy (v := .agg ([I ((ls.getD i lf0).n), I (((ls.getD i lf0).cell).c.k), .string (bst (((ls.getD i lf0).cell).c.key)), v43, slv 32 0 ((ls.getD i lf0).path.length) v34]).toArray) (y_loadA (us := [I ((ls.getD i lf0).n), I (((ls.getD i lf0).cell).c.k), .string (bst (((ls.getD i lf0).cell).c.key)), v43, slv 32 0 ((ls.getD i lf0).path.length) v34]) ag74 sz74 rfl rfl (fun j u hu => (H51.cell 0 rfl (by rw [Nat.zero_add]; exact hu)))) ?_
  refine st (ow_buildSlice (pv := [(0, .agg ([I ((ls.getD i lf0).n), I (((ls.getD i lf0).cell).c.k), .string (bst (((ls.getD i lf0).cell).c.key)), v43, slv 32 0 ((ls.getD i lf0).path.length) v34]).toArray)]) (us := [I ((ls.getD i lf0).n), I (((ls.getD i lf0).cell).c.k), .string (bst (((ls.getD i lf0).cell).c.key)), v43, slv 32 0 ((ls.getD i lf0).path.length) v34]) Try.underlying39 sz74 zr74 H51 ⟨⟨rfl, rfl⟩, trivial⟩ (by decide) (by kernel_rfl)) ?_
  rintro _ w53 ⟨g52, rfl, H54⟩
  have H60 : St w _ [_, _, _, _, _, _, _, _, _, _] w53 := H54.foc 5 rfl rfl
  refine st (ow_append (m := 1) (news := [I ((ls.getD i lf0).n), I (((ls.getD i lf0).cell).c.k), .string (bst (((ls.getD i lf0).cell).c.key)), v43, slv 32 0 ((ls.getD i lf0).path.length) v34]) Try.underlying39 sz74 zr74 bt74 rfl ho (H60) rfl rfl (((H60.rd (n := 1) (s := 5) (cap := 1) 1 rfl (by simp) ⟨Nat.le_refl _, by simp [maxLen]⟩).src Try.underlying39 (by intro u hu; simp only [List.mem_cons, List.not_mem_nil, or_false] at hu; rcases hu with rfl | rfl | rfl | rfl | rfl <;> first | rfl | exact Rd.one ((WideP.os hw47).rd H60 3 rfl) | exact Rd.one (Rd.slv (ho37.rd H60 4 rfl) (Nat.zero_le _) (by rw [List.length_append]; omega))))) (by omega) (by omega)) ?_
  rintro v56 w57 ⟨E55, ho59', H58⟩
  have ho59 : OS 74 5 v56 (ds ++ [(⟨(ls.getD i lf0).n, ⟨(ls.getD i lf0).cell.c, v43⟩, slv 32 0 ((ls.getD i lf0).path.length) v34, (ls.getD i lf0).path⟩ : Lf)]).length ((ds ++ [(⟨(ls.getD i lf0).n, ⟨(ls.getD i lf0).cell.c, v43⟩, slv 32 0 ((ls.getD i lf0).path.length) v34, (ls.getD i lf0).path⟩ : Lf)]).flatMap Lf.cs) E55 := by rw [flat5_snoc, List.length_append]; exact ho59'
  refine sy (v := Ad (bs g7) (0 + 1)) (y_fld Try.underlying41 rfl rfl sz39 (by decide) s3_16) ?_
  have H61 : St w _ [_, _, _, _, _, _, _, _, _, _] w57 := H58.foc 7 rfl rfl
  refine s0 (ow_store (j := 1) H61 sz39 rfl rfl (Rd.one (ho59.rd H61 1 rfl)) rfl (by simp)) ?_
  rintro _ w62 H63'
  have H63 : St w _ [[(g7, Rw 41 ([I (n), v56]))], _, _, _, _, _, _, _, _, _] w62 := H63'
  refine c_nil ?_
  refine n_block (n_then ?_)
  refine c_reg ?_
  refine sy (v := I ((i : Nat) : Int)) (y_move s4_16) ?_
  refine sy (v := I ((i + 1 : Nat) : Int)) (n_add (a := i) (b := 1) rfl rfl (by omega)) ?_
  refine sy (v := I ((i + 1 : Nat) : Int)) (y_assign rfl) ?_
  refine c_nil ?_
  have H64 : St w _ [_, _, _, _, _, _, _, _, _, _] w62 := H63.foc 9 rfl rfl
  have H65 : St w _ [_, _, _, _, _, _, _, _, _, _] w62 := H64.foc 9 rfl rfl
  have H66 : St w _ [_, _, _, _, _, _, _, _, _, _] w62 := H65.foc 8 rfl rfl
  have H67 : St w _ [_, _, _, _, _, _, _, _, _, _] w62 := H66.foc 6 rfl rfl
  have H68 : St w _ [_, _, _, _, _, _, _, _, _, _] w62 := H67.foc 6 rfl rfl
  have H69 : St w _ [_, _, _, _, _, _, _, _, _, _] w62 := H68.foc 6 rfl rfl
  have H70 : St w _ [_, _, _, _, _, _, _, _, _, _] w62 := H69.foc 6 rfl rfl
  have H71 : St w _ [_, _, _, _, _, _, _, _, _, _] w62 := H70.foc 9 rfl rfl
  have H72 : St w _ [_, _, _, _, _, _, _, _, _, _] w62 := H71.foc 8 rfl rfl
  have H73 : St w _ [_, _, _, _, _, _, _, _, _, _] w62 := H72.foc 9 rfl rfl
  obtain ⟨H74, hd75⟩ := H73.join
  obtain ⟨H76, hd77⟩ := H74.join
  have hlw78 : LeafW (⟨(ls.getD i lf0).n, ⟨(ls.getD i lf0).cell.c, v43⟩, slv 32 0 ((ls.getD i lf0).path.length) v34, (ls.getD i lf0).path⟩ : Lf) (E44 ++ E33) := ⟨_, _, rfl, hw47, beh_of (by have h := ho37; rw [List.length_append] at h; exact h) (by omega), hlr.cell.2, hlr.h32, hlr.le, hd75⟩
  have H79 : St w _ [_, _, _, _, _, _, _, _] w62 := H76.foc 7 rfl rfl
  have H80 : St w _ [_, _, _, _, _, _, _, _] w62 := H79.foc 7 rfl rfl
  have H81 : St w _ [_, _, _, _, _, _, _, _] w62 := H80.foc 3 rfl rfl
  have H82 : St w _ [_, _, _, _, _, _, _, _] w62 := H81.foc 3 rfl rfl
  have H83 : St w _ [_, _, _, _, _, _, _, _] w62 := H82.foc 4 rfl rfl
  have H84 : St w _ [_, _, _, _, _] w62 := H83.take 5 rfl
  exact lp_next (i + 1) ⟨v56, E55, (F ++ (E44 ++ E33)), (ds ++ [(⟨(ls.getD i lf0).n, ⟨(ls.getD i lf0).cell.c, v43⟩, slv 32 0 ((ls.getD i lf0).path.length) v34, (ls.getD i lf0).path⟩ : Lf)]), s1_16, s2_16, s3_16, rfl, (by omega), ho59, (LeafsW.snoc hlw78 hF hd77), (by rw [List.length_append, List.length_singleton]; omega), (pe_snoc hpe (by omega) rfl), H84⟩ (by show _ < _; omega)
 ·
  refine wp_exit ?_
  refine x_then (x_then (x_hit (n_then ?_)))
  refine c_seq ?_
  refine c_reg ?_
  refine sy (v := Ad (bs g7) (0 + 1)) (y_fld Try.underlying41 rfl rfl sz39 (by decide) s3_16) ?_
  refine sy (v := lw) (y_load sc39 rfl (H16.cell 2 rfl rfl)) ?_
  refine st (ow_append (m := ds.length) (news := ds.flatMap Lf.cs) Try.underlying39 sz74 zr74 bt74 rfl (OS.nil 74 5) H16.nilp rfl rfl (((ho.rd H16 0 rfl).src Try.underlying39 (LeafsW.ones hF))) (by omega) (by omega)) ?_
  rintro v86 w87 ⟨E85, ho89', H88⟩
  have ho89 : OS 74 5 v86 ds.length (ds.flatMap Lf.cs) E85 := by have h := ho89'; rw [Nat.zero_add, List.nil_append] at h; exact h
  refine sy (v := .agg ([I (-6), I ((0 : Nat) : Int), .string .empty, .slice none 0 0, .slice none 0 0]).toArray) (y_build (pv := [(0, I (-6))]) (us := [I (-6), I ((0 : Nat) : Int), .string (.empty), .slice none 0 0, .slice none 0 0]) ⟨⟨rfl, rfl⟩, trivial⟩ (by kernel_rfl)) ?_
  refine st (ow_buildSlice (pv := [(0, .agg ([I (-6), I ((0 : Nat) : Int), .string .empty, .slice none 0 0, .slice none 0 0]).toArray)]) (us := [I (-6), I ((0 : Nat) : Int), .string (.empty), .slice none 0 0, .slice none 0 0]) Try.underlying39 sz74 zr74 H88 ⟨⟨rfl, rfl⟩, trivial⟩ (by decide) (by kernel_rfl)) ?_
  rintro _ w91 ⟨g90, rfl, H92⟩
  have H98 : St w _ [_, _, _, _, _, _, _] w91 := H92.foc 1 rfl rfl
  refine st (ow_append (m := 1) (news := [I (-6), I ((0 : Nat) : Int), .string (.empty), .slice none 0 0, .slice none 0 0]) Try.underlying39 sz74 zr74 bt74 rfl ho89 (H98) rfl rfl (((H98.rd (n := 1) (s := 5) (cap := 1) 1 rfl (by simp) ⟨Nat.le_refl _, by simp [maxLen]⟩).src Try.underlying39 (by simp [Value.oneCell']))) (by omega) (by omega)) ?_
  rintro v94 w95 ⟨E93, ho97', H96⟩
  have ho97 : OS 74 5 v94 (ds.length + 1) (ds.flatMap Lf.cs ++ mk5) E93 := ho97'
  refine sy (v := v94) (y_assign rfl) ?_
  refine c_nil ?_
  refine n_then ?_
  refine c_seq ?_
  refine c_reg ?_
  refine sy (v := v94) (y_move rfl) ?_
  refine sy (v := Ad (bs g1) (0 + 1)) (y_fld Try.underlying41 rfl rfl sz39 (by decide) s1_16) ?_
  refine sy (v := lv) (y_load sc39 rfl (H96.cell 6 rfl rfl)) ?_
  refine sy (v := I ((ls.length : Nat) : Int)) (y_lenR Try.underlying39 (hL.st H96).rd rfl) ?_
  refine sy (v := slv 5 0 ls.length v94) (y_slR (k1 := .i64) (k2 := .i64) (l := 0) (h := ls.length) Try.underlying39 sz74 (ho97.rd H96 0 rfl) rfl (.inl ⟨rfl, rfl⟩) (.inr ⟨_, rfl, rfl⟩) (by omega) (by omega)) ?_
  refine sy (v := Ad (bs g7) (0 + 1)) (y_fld Try.underlying41 rfl rfl sz39 (by decide) s3_16) ?_
  have H99 : St w _ [_, _, _, _, _, _, _] w95 := H96.foc 4 rfl rfl
  refine s0 (ow_store (j := 1) H99 sz39 rfl rfl (Rd.one (Rd.slv (ho97.rd H99 1 rfl) (Nat.zero_le _) (by omega))) rfl (by simp)) ?_
  rintro _ w100 H101'
  have H101 : St w _ [[(g7, Rw 41 ([I (n), slv 5 0 ls.length v94]))], _, _, _, _, _, _] w100 := H101'
  refine c_nil ?_
  refine n_then ?_
  refine c_seq ?_
  refine c_reg ?_
  refine sy (v := .agg ([I n, slv 5 0 ls.length v94]).toArray) (y_loadA (us := [I (n), slv 5 0 ls.length v94]) ag41 sz41 rfl s3_16 (fun j u hu => (H101.cell 0 rfl (by rw [Nat.zero_add]; exact hu)))) ?_
  have H102 : St w _ [_, _, _, _, _, _, _] w100 := H101.foc 5 rfl rfl
  refine s0 (ow_storeW (us := [I (n), slv 5 0 ls.length v94]) H102 sz41 rfl s2_16 rfl (by intro u hu; simp only [List.mem_cons, List.not_mem_nil, or_false] at hu; rcases hu with rfl | rfl <;> first | rfl | exact Rd.one (Rd.slv (ho97.rd H102 2 rfl) (Nat.zero_le _) (by omega))) (by simp [*])) ?_
  rintro _ w103 H104'
  have H104 : St w _ [[(g4, Rw 41 ([I (n), slv 5 0 ls.length v94]))], _, _, _, _, _, _] w103 := H104'
  refine c_nil ?_
  refine n_then ?_
  refine wp_ret ?_
  refine e_r1 Try.results49 (rv_b H104 (i := 0) rfl ag41 sz41 rfl s2_16) ?_
  have H105 : St w _ [_, _, _, _, _, _, _] w103 := H104.foc 2 rfl rfl
  have H106 : St w _ [_, _, _, _, _, _, _] w103 := H105.foc 5 rfl rfl
  have H107 : St w _ [_, _] w103 := H106.take 2 rfl
  have hil : ds.length = ls.length := by omega
  have hpf : PE ds = PE ls := by rw [hpe]; exact List.take_of_length_le (by rw [List.length_map]; omega)
  obtain ⟨hb1, hb2⟩ := lc_mk (beh_of ho97 (by omega)) hF (by omega) H107
  exact ⟨_, rfl, _, ds, _, by rw [← hil], hb1, hpf, hb2⟩

theorem hmk_at {hs : List (List UInt8)} : (hs ++ [hmk]).getD hs.length [] = hmk := by
  rw [List.getD_eq_getElem?_getD, List.getElem?_append_right (Nat.le_refl _), Nat.sub_self]; rfl
theorem samew_yes2 {n m : Int} {lv lw : Value} {ls ks : List Lf} {w : World} (hL : LsR [] w lv ls) (hM : LsR [] w lw ks) (h : n = m ∧ PE ls = PE ks) :
    Calls Try.prog 39 (([.agg ([I n, lv] : List Value).toArray, .agg ([I m, lw] : List Value).toArray] : List Value).toArray) w (fun e w' => ∃ v, e = .returned v ∧ v = .bool true ∧ Below w.heap.size w w') :=
  (samew_c n m lv lw ls ks w hL hM).mono fun e w' ⟨v, he, b, hv, hb, hB⟩ => ⟨v, he, by rw [hv, hb.2 h], hB⟩

set_option maxHeartbeats 2000000 in
set_option maxRecDepth 20000 in
theorem stays_step (p : Addr) (cap : Nat) (n m : Int) (lw : Value) (ls ks : List Lf) (w : World) (hc : LCR w (.slice (some p) ls.length cap) ls) (hcp : ls.length + 1 ≤ cap) (hbr : Rd [] w 5 (.slice (some p) (ls.length + 1) cap) (ls.length + 1) (ls.flatMap Lf.cs ++ mk5)) (hM : LsR [] w lw ks) (hq : n = m ∧ PE ls = PE ks) :
    Calls Try.prog 50 (([.agg ([I n, (.slice (some p) ls.length cap)]).toArray, .agg ([I m, lw]).toArray] : List Value).toArray) w (fun e w' => ∃ v, e = .returned v ∧ v = .bool true ∧ Below w.heap.size w w') := by
 have hle := hM.le
 have hlk := (pe_get hq.2).1
 refine calls_mk Try.func50 rfl 69 Try.ntmps50 rfl ?_
 have H0 : St w [] [] w := St.refl w
 refine c_seq ?_
 refine c_reg ?_
 refine st (ow_box (l := [I (n), (.slice (some p) ls.length cap)]) H0 rfl rfl) ?_
 rintro _ w2 ⟨g1, rfl, H3⟩
 refine st (ow_box (l := [I (m), lw]) H3 rfl rfl) ?_
 rintro _ w5 ⟨g4, rfl, H6⟩
 refine sy (v := .bool (false)) (y_assign (v := .bool (false)) rfl) ?_
 refine c_nil ?_
 refine n_then ?_
 refine c_seq ?_
 refine c_seq ?_
 refine c_reg ?_
 refine sy (v := .agg ([I n, (.slice (some p) ls.length cap)]).toArray) (y_loadA (us := [I (n), (.slice (some p) ls.length cap)]) ag41 sz41 rfl rfl (fun j u hu => (H6.cell 1 rfl (by rw [Nat.zero_add]; exact hu)))) ?_
 refine sy (v := .agg ([I m, lw]).toArray) (y_loadA (us := [I (m), lw]) ag41 sz41 rfl rfl (fun j u hu => (H6.cell 0 rfl (by rw [Nat.zero_add]; exact hu)))) ?_
 refine st (ow_call fn39 rfl (samew_yes2 (n := n) (m := m) (ls := ls) (ks := ks) (hc.ls.st H6).nil (hM.st H6).nil hq) ⟨rfl, rfl, trivial⟩) ?_
 rintro _ w7 ⟨rfl, hB8⟩
 have H9 : St w _ [_, _] w7 := H6.call hB8
 refine sy (v := .bool (false)) (y_not (p := true) rfl) ?_
 refine c_nil ?_
 refine n_then ?_
 refine c_f rfl rfl ?_
 refine wp_skip ?_
 refine n_then ?_
 refine c_seq ?_
 refine c_seq ?_
 refine c_reg ?_
 refine sy (v := I ((0 : Nat) : Int)) (y_assign (v := I ((0 : Nat) : Int)) rfl) ?_
 refine c_nil ?_
 refine n_then ?_
 refine wp_block ?_
 refine c_loop (fun (j : Nat) f10 w11 => f10 2 = Ad (bs g1) (0) ∧ f10 3 = Ad (bs g4) (0) ∧ f10 5 = I ((j : Nat) : Int) ∧ j ≤ ks.length ∧ St w [] [[(g4, Rw 41 ([I (m), lw]))], [(g1, Rw 41 ([I (n), (.slice (some p) ls.length cap)]))]] w11) (fun j => ks.length - j) 0 ⟨rfl, rfl, rfl, (Nat.zero_le _), H9⟩ ?_
 rintro j f10 w11 ⟨s2_12, s3_12, s5_12, hf0_12, H12⟩
 refine c_seq ?_
 refine c_seq ?_
 refine c_reg ?_
 refine sy (v := I ((j : Nat) : Int)) (y_move s5_12) ?_
 refine sy (v := Ad (bs g4) (0 + 1)) (y_fld Try.underlying41 rfl rfl sz39 (by decide) s3_12) ?_
 refine sy (v := lw) (y_load sc39 rfl (H12.cell 0 rfl rfl)) ?_
 refine sy (v := I ((ks.length : Nat) : Int)) (y_lenR Try.underlying39 (hM.st H12).rd rfl) ?_
 refine sy (v := .bool (decide (j < ks.length))) (n_lss (a := j) (b := ks.length) rfl rfl) ?_
 refine c_nil ?_
 refine n_then ?_
 refine c_if rfl (fun hc13 => ?_) (fun hc13 => ?_)
 ·
  refine wp_skip ?_
  refine n_then ?_
  refine c_seq ?_
  refine wp_block ?_
  refine c_seq ?_
  obtain ⟨pp, pc, hpv, hpc1, hpc2, hpr⟩ := (hc.at (d := lf0) (i := j) (by omega)).path
  have hple := (hc.at (d := lf0) (i := j) (by omega)).lr.le
  have hh33 : H32 ((ls.getD j lf0).path ++ [hmk]) := hh_app (hc.at (d := lf0) (i := j) (by omega)).lr.h32 (hh_one hmk_len)
  have hpl : ((ls.getD j lf0).path ++ [hmk]).length = (ls.getD j lf0).path.length + 1 := by rw [List.length_append]; rfl
  have hsd := (hc.at (d := lf0) (i := j) (by omega)).lr.cell.2
  have hsc := (hM.at (d := lf0) (i := j) (by omega)).cell.2
  have heq := (le_iff.1 ((pe_get hq.2).2 j (by omega))).2.1.2.2
  refine c_reg ?_
  refine sy (v := Ad (bs g1) (0 + 1)) (y_fld Try.underlying41 rfl rfl sz39 (by decide) s2_12) ?_
  refine sy (v := (.slice (some p) ls.length cap)) (y_load sc39 rfl (H12.cell 1 rfl rfl)) ?_
  refine sy (v := I ((j : Nat) : Int)) (y_move s5_12) ?_
  refine sy (v := Ad (sp ((.slice (some p) ls.length cap))) (j * 5)) (y_ixR (m := j) Try.underlying39 sz74 (hc.ls.st H12).rd (by decide) rfl rfl rfl (by omega)) ?_
  refine sy (v := .agg ([I ((ls.getD j lf0).n), I (((ls.getD j lf0).cell).c.k), .string (bst (((ls.getD j lf0).cell).c.key)), ((ls.getD j lf0).cell).v, (ls.getD j lf0).pv]).toArray) (y_loadA (us := (ls.getD j lf0).cs) ag74 sz74 rfl rfl (fun j u hu => (hc.ls.st H12).rd.cell _ _ (flat5_get (by omega) hu))) ?_
  refine st (ow_alloc (l := [I ((0 : Nat) : Int), I ((0 : Nat) : Int), .string (.empty), .slice none 0 0, .slice none 0 0]) H12 zr74 rfl) ?_
  rintro _ w15 ⟨g14, rfl, H16⟩
  refine s0 (ow_storeW (us := [I ((ls.getD j lf0).n), I (((ls.getD j lf0).cell).c.k), .string (bst (((ls.getD j lf0).cell).c.key)), ((ls.getD j lf0).cell).v, (ls.getD j lf0).pv]) H16 sz74 rfl rfl rfl (by intro u hu; simp only [List.mem_cons, List.not_mem_nil, or_false] at hu; rcases hu with rfl | rfl | rfl | rfl | rfl <;> first | rfl | exact Rd.one (((hc.ls.at (d := lf0) (i := j) (by omega)).cell).1.st H16) | exact Rd.one ((hc.ls.at (d := lf0) (i := j) (by omega)).rd.st H16)) (by simp [*])) ?_
  rintro _ w17 H18'
  have H18 : St w _ [[(g14, Rw 74 ([I ((ls.getD j lf0).n), I (((ls.getD j lf0).cell).c.k), .string (bst (((ls.getD j lf0).cell).c.key)), ((ls.getD j lf0).cell).v, (ls.getD j lf0).pv]))], _, _] w17 := H18'
  refine c_nil ?_
  refine n_then ?_
  refine c_seq ?_
  refine c_reg ?_
  refine sy (v := Ad (bs g14) (0 + 4)) (y_fld Try.underlying74 rfl rfl sz72 (by decide) rfl) ?_
  refine sy (v := (ls.getD j lf0).pv) (y_load sc72 rfl (H18.cell 0 rfl rfl)) ?_
  refine sy (v := Ad (bs g14) (0 + 4)) (y_fld Try.underlying74 rfl rfl sz72 (by decide) rfl) ?_
  refine sy (v := (ls.getD j lf0).pv) (y_load sc72 rfl (H18.cell 0 rfl rfl)) ?_
  refine sy (v := I (((ls.getD j lf0).path.length : Nat) : Int)) (y_lenR Try.underlying72 ((hc.ls.at (d := lf0) (i := j) (by omega)).rd.st H18) rfl) ?_
  refine sy (v := I ((((ls.getD j lf0).path.length) + 1 : Nat) : Int)) (n_add (a := (ls.getD j lf0).path.length) (b := 1) rfl rfl (by omega)) ?_
  refine sy (v := (.slice (some pp) ((ls.getD j lf0).path.length + 1) pc)) ((slv_fst' (s := 32) (n := (ls.getD j lf0).path.length) (m := (ls.getD j lf0).path.length + 1) (p := pp) (cap := pc) (by omega) ▸ y_sl (k1 := .i64) (k2 := .i64) (l := 0) (h := (ls.getD j lf0).path.length + 1) Try.underlying72 sz26 (Eq.trans (b := (ls.getD j lf0).pv) rfl hpv) (.inl ⟨rfl, rfl⟩) (.inr ⟨_, rfl, rfl⟩) (by omega) (by omega))) ?_
  refine sy (v := (.slice (some pp) ((ls.getD j lf0).path.length + 1) pc)) (y_assign rfl) ?_
  refine c_nil ?_
  refine n_then ?_
  refine c_seq ?_
  refine drawS (.step 0 0 (.step 0 1 (.step 0 2 (.step 0 3 (.step 0 4 (.step 0 5 (.step 0 6 (.step 0 7 (.step 0 8 (.step 0 9 (.step 0 10 (.step 0 11 (.step 0 12 (.step 0 13 (.step 0 14 (.step 0 15 (.step 0 16 (.step 0 17 (.step 0 18 (.step 1 19 (.step 0 20 (.step 0 21 .nil)))))))))))))))))))))) mixed H18 (by kernel_rfl) (by kernel_rfl) (by kernel_rfl) ?_
  intro w19 H20
  refine pt (v := (.slice (some pp) ((ls.getD j lf0).path.length + 1) pc)) rfl (fun wS HS => y_move rfl) ?_
  refine pt (v := Ad (bs g14) (0 + 4)) rfl (fun wS HS => y_fld Try.underlying74 rfl rfl sz72 (by decide) rfl) ?_
  refine pt (v := (ls.getD j lf0).pv) rfl (fun wS HS => y_load sc72 rfl (HS.cell 0 rfl rfl)) ?_
  refine pt (v := I (((ls.getD j lf0).path.length : Nat) : Int)) rfl (fun wS HS => y_lenR Try.underlying72 ((hc.ls.at (d := lf0) (i := j) (by omega)).rd.st HS) rfl) ?_
  refine pt (v := Ad (sp ((.slice (some pp) ((ls.getD j lf0).path.length + 1) pc))) (((ls.getD j lf0).path.length) * 32)) rfl (fun wS HS => y_ixR (m := (ls.getD j lf0).path.length) Try.underlying72 sz26 (hpr.st HS) (by decide) rfl rfl rfl (by omega)) ?_
  refine pt (v := .agg ((((ls.getD j lf0).path ++ [hmk]).getD ((ls.getD j lf0).path.length) []).map B8).toArray) rfl (fun wS HS => y_loadA (us := (((ls.getD j lf0).path ++ [hmk]).getD ((ls.getD j lf0).path.length) []).map B8) ag26 sz26 ((List.length_map _).trans (getD_len hh33 (by omega))) rfl (fun j u hu => (hpr.st HS).cell _ _ (flat_get hh33 (by omega) hu))) ?_
  refine pt (v := .agg (hmk.map B8).toArray) rfl (fun wS HS => y_build (pv := [(3, B8 (3))]) (us := hmk.map B8) ⟨⟨rfl, rfl⟩, trivial⟩ (by kernel_rfl)) ?_
  refine pt (v := .bool (decide ((((ls.getD j lf0).path ++ [hmk]).getD ((ls.getD j lf0).path.length) []) ≠ hmk))) rfl (fun wS HS => y_neqArr (l1 := ((ls.getD j lf0).path ++ [hmk]).getD ((ls.getD j lf0).path.length) []) (l2 := hmk) Try.underlying26 sz5 sc5 Try.underlying5 gt26 (getD_len hh33 (by omega)) hmk_len rfl rfl) ?_
  refine pt (v := .bool (decide ((((ls.getD j lf0).path ++ [hmk]).getD ((ls.getD j lf0).path.length) []) ≠ hmk))) rfl (fun wS HS => y_move rfl) ?_
  have hq21 : ¬ ((((ls.getD j lf0).path ++ [hmk]).getD ((ls.getD j lf0).path.length) []) ≠ hmk) := (not_not_intro hmk_at)
  refine gpt (v := Ad (bs g14) (0 + 1)) rfl (gv_of (t := 40) rfl rfl rfl) (decide_eq_false hq21) (fun wS HS => y_fld Try.underlying74 rfl rfl sz48 (by decide) rfl) ?_
  refine gpt (v := Ad (bs g14) ((0 + 1) + 2)) rfl (gv_of (t := 40) rfl rfl rfl) (decide_eq_false hq21) (fun wS HS => y_fld Try.underlying48 rfl rfl sz23 (by decide) rfl) ?_
  refine gpt (v := ((ls.getD j lf0).cell).v) rfl (gv_of (t := 40) rfl rfl rfl) (decide_eq_false hq21) (fun wS HS => y_load sc23 rfl (HS.cell 0 rfl rfl)) ?_
  refine gpt (v := Ad (bs g4) (0 + 1)) rfl (gv_of (t := 40) rfl rfl rfl) (decide_eq_false hq21) (fun wS HS => y_fld Try.underlying41 rfl rfl sz39 (by decide) s3_12) ?_
  refine gpt (v := lw) rfl (gv_of (t := 40) rfl rfl rfl) (decide_eq_false hq21) (fun wS HS => y_load sc39 rfl (HS.cell 1 rfl rfl)) ?_
  refine gpt (v := I ((j : Nat) : Int)) rfl (gv_of (t := 40) rfl rfl rfl) (decide_eq_false hq21) (fun wS HS => y_move s5_12) ?_
  refine gpt (v := Ad (sp (lw)) (j * 5)) rfl (gv_of (t := 40) rfl rfl rfl) (decide_eq_false hq21) (fun wS HS => y_ixR (m := j) Try.underlying39 sz74 (hM.st HS).rd (by decide) rfl rfl rfl (by omega)) ?_
  refine gpt (v := Ad (sp (lw)) ((j * 5) + 1)) rfl (gv_of (t := 40) rfl rfl rfl) (decide_eq_false hq21) (fun wS HS => y_fld Try.underlying74 rfl rfl sz48 (by decide) rfl) ?_
  refine gpt (v := Ad (sp (lw)) (((j * 5) + 1) + 2)) rfl (gv_of (t := 40) rfl rfl rfl) (decide_eq_false hq21) (fun wS HS => y_fld Try.underlying48 rfl rfl sz23 (by decide) rfl) ?_
  refine gpt (v := ((ks.getD j lf0).cell).v) rfl (gv_of (t := 40) rfl rfl rfl) (decide_eq_false hq21) (fun wS HS => y_load sc23 rfl (by first | exact (hM.st HS).rd.cell _ _ (flat5_get (i := j) (j := 3) (d := lf0) (by omega) rfl) | (rw [Nat.add_assoc]; exact (hM.st HS).rd.cell _ _ (flat5_get (i := j) (j := 3) (d := lf0) (by omega) rfl)))) ?_
  refine gpl rfl (gv_of (t := 40) rfl rfl rfl) (decide_eq_false hq21) (ow_call fn104 rfl (KeptV_c (v0 := (ls.getD j lf0).cell.v) (l := (ls.getD j lf0).cell.c.l) (k := (ks.getD j lf0).cell.c.l) ((hc.at (d := lf0) (i := j) (by omega)).wide.st H20) (((hM.at (d := lf0) (i := j) (by omega)).cell).1.st H20) hsd.2 hsc.2) ⟨rfl, rfl, trivial⟩) ?_
  rintro _ w22 ⟨rfl, hB23⟩
  have H24 : St w _ [_, _, _] w22 := H20.call hB23
  refine ⟨H24, ?_⟩
  refine gpt (v := .bool (decide (¬ ((ls.getD j lf0).cell.c.l = (ks.getD j lf0).cell.c.l)))) rfl (gv_of (t := 40) rfl rfl rfl) (decide_eq_false hq21) (fun wS HS => y_notP rfl) ?_
  refine pt (v := .bool (decide (¬ ((ls.getD j lf0).cell.c.l = (ks.getD j lf0).cell.c.l)))) rfl (fun wS HS => y_pickF rfl (decide_eq_false hq21) rfl) ?_
  refine p_nil ?_
  refine n_then ?_
  have hq25 : (ls.getD j lf0).cell.c.l = (ks.getD j lf0).cell.c.l := heq
  refine c_f rfl (decide_eq_false (not_not_intro hq25)) ?_
  refine wp_skip ?_
  refine n_block (n_then ?_)
  refine c_reg ?_
  refine sy (v := I ((j : Nat) : Int)) (y_move s5_12) ?_
  refine sy (v := I ((j + 1 : Nat) : Int)) (n_add (a := j) (b := 1) rfl rfl (by omega)) ?_
  refine sy (v := I ((j + 1 : Nat) : Int)) (y_assign rfl) ?_
  refine c_nil ?_
  have H26 : St w _ [_, _, _] w22 := H24.foc 2 rfl rfl
  have H27 : St w _ [_, _, _] w22 := H26.foc 2 rfl rfl
  have H28 : St w _ [_, _] w22 := H27.take 2 rfl
  exact lp_next (j + 1) ⟨s2_12, s3_12, rfl, (by omega), H28⟩ (by show _ < _; omega)
 ·
  refine wp_exit ?_
  refine x_then (x_then (x_hit (n_then ?_)))
  refine c_seq ?_
  refine c_reg ?_
  refine sy (v := Ad (bs g1) (0 + 1)) (y_fld Try.underlying41 rfl rfl sz39 (by decide) s2_12) ?_
  refine sy (v := (.slice (some p) ls.length cap)) (y_load sc39 rfl (H12.cell 1 rfl rfl)) ?_
  refine sy (v := Ad (bs g4) (0 + 1)) (y_fld Try.underlying41 rfl rfl sz39 (by decide) s3_12) ?_
  refine sy (v := lw) (y_load sc39 rfl (H12.cell 0 rfl rfl)) ?_
  refine sy (v := I ((ks.length : Nat) : Int)) (y_lenR Try.underlying39 (hM.st H12).rd rfl) ?_
  refine sy (v := I ((ks.length + 1 : Nat) : Int)) (n_add (a := ks.length) (b := 1) rfl rfl (by omega)) ?_
  have h829 : slv 5 0 (ks.length + 1) (.slice (some p) ls.length cap) = (.slice (some p) (ls.length + 1) cap) := by rw [← hlk]; exact slv_fst' (by omega)
  refine sy (v := (.slice (some p) (ls.length + 1) cap)) ((h829 ▸ y_sl (k1 := .i64) (k2 := .i64) (l := 0) (h := ks.length + 1) Try.underlying39 sz74 rfl (.inl ⟨rfl, rfl⟩) (.inr ⟨_, rfl, rfl⟩) (by omega) (by omega))) ?_
  refine sy (v := (.slice (some p) (ls.length + 1) cap)) (y_assign rfl) ?_
  refine c_nil ?_
  refine n_then ?_
  refine c_seq ?_
  refine c_reg ?_
  refine sy (v := (.slice (some p) (ls.length + 1) cap)) (y_move rfl) ?_
  refine sy (v := Ad (bs g4) (0 + 1)) (y_fld Try.underlying41 rfl rfl sz39 (by decide) s3_12) ?_
  refine sy (v := lw) (y_load sc39 rfl (H12.cell 0 rfl rfl)) ?_
  refine sy (v := I ((ks.length : Nat) : Int)) (y_lenR Try.underlying39 (hM.st H12).rd rfl) ?_
  refine sy (v := Ad (sp ((.slice (some p) (ls.length + 1) cap))) (ks.length * 5)) (y_ixR (m := ks.length) Try.underlying39 sz74 (hbr.st H12) (by decide) rfl rfl rfl (by omega)) ?_
  refine sy (v := Ad (sp ((.slice (some p) (ls.length + 1) cap))) ((ks.length * 5) + 0)) (y_fld Try.underlying74 rfl rfl sz3 (by decide) rfl) ?_
  refine sy (v := I (-6)) (y_load sc3 rfl ((hbr.st H12).cell _ _ (by rw [show ks.length * 5 + 0 = ls.length * 5 + 0 by rw [hlk]]; exact mk5_get rfl))) ?_
  refine sy (v := .bool (decide ((-6) = (-6)))) (y_eqlK (i := (-6)) (j := (-6)) rfl rfl) ?_
  refine sy (v := .bool (decide ((-6) = (-6)))) (y_assign rfl) ?_
  refine c_nil ?_
  refine n_then ?_
  refine wp_ret ?_
  refine e_r1 Try.results50 (rv_t rfl) ?_
  have hq30 : (-6) = (-6) := rfl
  have hz : (.bool (decide ((-6) = (-6))) : Value) = .bool true := congrArg Value.bool (decide_eq_true hq30)
  exact ⟨_, rfl, hz, H12.below⟩

theorem stays_c {n m : Int} {lv lw : Value} {ls ks : List Lf} {w : World} (hc : LCR w lv ls) (hM : LsR [] w lw ks) (hq : n = m ∧ PE ls = PE ks) :
    Calls Try.prog 50 (([.agg ([I n, lv] : List Value).toArray, .agg ([I m, lw] : List Value).toArray] : List Value).toArray) w (fun e w' => ∃ v, e = .returned v ∧ v = .bool true ∧ Below w.heap.size w w') := by
  obtain ⟨p, cap, rfl, h1, h2, h3⟩ := hc.beh
  exact stays_step p cap n m lw ls ks w hc h1 h3 hM hq

end Go.Proofs.Ytdcmbcjkdhdohaa
