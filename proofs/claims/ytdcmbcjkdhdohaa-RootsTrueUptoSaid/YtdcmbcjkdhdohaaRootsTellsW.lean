/- The walk of RootsTells. -/
import Derived.Test.YtdcmbcjkdhdohaaRootsC
import Derived.Test.YtdcmbcjkdhdohaaRootsFindsW
import Derived.Test.YtdcmbcjkdhdohaaRootsChecksW
namespace Go.Proofs.Ytdcmbcjkdhdohaa
open Go Go.RowKit
set_option linter.unusedSimpArgs false
set_option linter.unusedVariables false
attribute [local irreducible] wpList wpP Code.wp

theorem lsr_nil {w : World} : LsR [] w (.slice none 0 0) [] := ⟨⟨rfl, ⟨_, _, rfl, Nat.le_refl _, by simp [maxLen]⟩, by simp, by simp⟩, by simp, by simp⟩
theorem FindsA.good {kind : Int} {key : List UInt8} {l : List Ce} {n err : Nat} {ls : List Le} (h : FindsA kind key l n ls err) (hk : kMay kind) (hw : wrong l = 0) : n = l.length ∧ err = 0 ∧ ∃ p, IsP kind key l p ∧ ls = leavesAt kind key l p := by
  rcases h with ⟨h1, -⟩ | ⟨-, h2, -⟩ | ⟨-, -, h3, h4, h5⟩
  · exact absurd hk h1
  · exact absurd hw h2
  · exact ⟨h3, h4, h5⟩
theorem FindsA.bad {kind : Int} {key : List UInt8} {l : List Ce} {n err : Nat} {ls : List Le} (h : FindsA kind key l n ls err) (hb : ¬ (kMay kind ∧ wrong l = 0)) : n = 0 ∧ ls = [] ∧ err ≠ 0 := by
  rcases h with ⟨-, h1, h2, h3⟩ | ⟨-, h0, h1, h2, h3⟩ | ⟨h1, h2, -⟩
  · exact ⟨h1, h2, by omega⟩
  · exact ⟨h1, h2, by omega⟩
  · exact absurd ⟨h1, h2⟩ hb
/-- What the law's own search tells. -/
def StandsR (kind : Int) (key : List UInt8) (cs : List Cl) (c : Cl) (b : Bool) : Prop := (b = false ∧ c = c0 ∧ ∀ j, j < cs.length → plcI kind key cs j ≠ 0) ∨ (b = true ∧ ∃ j, j < cs.length ∧ plcI kind key cs j = 0 ∧ c = cs.getD j c0)
theorem StandsR.cr {kind : Int} {key : List UInt8} {cs : List Cl} {c : Cl} {b : Bool} {w : World} {v : Value} (h : StandsR kind key cs c b) (hC : CsR [] w v cs) : CR [] w c := by
  rcases h with ⟨-, rfl, -⟩ | ⟨-, j, hj, -, rfl⟩
  · exact cr0
  · exact hC.at hj
theorem StandsR.tells {kind : Int} {key : List UInt8} {cs : List Cl} {c : Cl} {b : Bool} {p : Nat} (h : StandsR kind key cs c b) (hw : wrong (PL cs) = 0) (hp : IsP kind key (PL cs) p) : (tellsA kind key (PL cs) p).isSome = b ∧ (tellsA kind key (PL cs) p).getD cz = c.c := by
  rcases h with ⟨rfl, rfl, h⟩ | ⟨rfl, j, hj, h0, rfl⟩
  · unfold tellsA
    rw [if_neg (fun hh => h p (hit_iff.1 hh).1 (hit_iff.1 hh).2)]
    exact ⟨rfl, rfl⟩
  · have hj2 : IsP kind key (PL cs) j := isP_mk (by omega) (fun i hi => by
      have h1 := ord_lt hw (j - i - 1) i (by omega)
      rw [show i + (j - i - 1) + 1 = j by omega, (plc_zero.1 h0).1, (plc_zero.1 h0).2] at h1
      exact plc_neg.2 h1) (fun _ => by omega)
    obtain rfl := hp.uniq hj2
    unfold tellsA
    rw [if_pos (hit_iff.2 ⟨hj, h0⟩), pl_getD]
    exact ⟨rfl, rfl⟩

attribute [local irreducible] leafH innerH topH rootH rootA sha checkA

theorem standsL_c (kind : Int) (key : List UInt8) (v0 : Value) (cs : List Cl) (w : World) (hC : CsR [] w v0 cs) :
    Calls Try.prog 38 (([v0, I (kind), .string (bst key)] : List Value).toArray) w (fun e w' => ∃ v, e = .returned v ∧ ∃ (c' : Cl) (b : Bool), v = .tuple #[.agg c'.cs.toArray, .bool b] ∧ StandsR kind key cs c' b ∧ Below w.heap.size w w') := by
 have hle := hC.le
 refine calls_mk Try.func38 rfl 36 Try.ntmps38 rfl ?_
 have H0 : St w [] [] w := St.refl w
 refine c_seq ?_
 refine c_reg ?_
 refine st (ow_alloc (l := [I ((0 : Nat) : Int), .string (.empty), .slice none 0 0]) H0 zr48 rfl) ?_
 rintro _ w2 ⟨g1, rfl, H3⟩
 refine sy (v := .bool (false)) (y_assign (v := .bool (false)) rfl) ?_
 refine c_nil ?_
 refine n_then ?_
 refine c_seq ?_
 refine c_seq ?_
 refine c_reg ?_
 refine sy (v := I ((0 : Nat) : Int)) (y_assign (v := I ((0 : Nat) : Int)) rfl) ?_
 refine c_nil ?_
 refine n_then ?_
 refine wp_block ?_
 refine c_loop (fun (i : Nat) f4 w5 => f4 0 = v0 ∧ f4 1 = I (kind) ∧ f4 2 = .string (bst key) ∧ f4 6 = Ad (bs g1) (0) ∧ f4 8 = I ((i : Nat) : Int) ∧ i ≤ cs.length ∧ (∀ j, j < i → plcI kind key cs j ≠ 0) ∧ St w [] [[(g1, Rw 48 ([I ((0 : Nat) : Int), .string (.empty), .slice none 0 0]))]] w5) (fun i => cs.length - i) 0 ⟨rfl, rfl, rfl, rfl, rfl, (Nat.zero_le _), (fun j hj => absurd hj (by omega)), H3⟩ ?_
 rintro i f4 w5 ⟨s0_6, s1_6, s2_6, s6_6, s8_6, hi, hz, H6⟩
 refine c_seq ?_
 refine c_seq ?_
 refine c_reg ?_
 refine sy (v := I ((i : Nat) : Int)) (y_move s8_6) ?_
 refine sy (v := v0) (y_move s0_6) ?_
 refine sy (v := I ((cs.length : Nat) : Int)) (y_lenR Try.underlying38 (hC.st H6).rd rfl) ?_
 refine sy (v := .bool (decide (i < cs.length))) (n_lss (a := i) (b := cs.length) rfl rfl) ?_
 refine c_nil ?_
 refine n_then ?_
 refine c_if rfl (fun hc7 => ?_) (fun hc7 => ?_)
 ·
  refine wp_skip ?_
  refine n_then ?_
  refine c_seq ?_
  refine wp_block ?_
  refine c_seq ?_
  refine c_reg ?_
  refine sy (v := v0) (y_move s0_6) ?_
  refine sy (v := I ((i : Nat) : Int)) (y_move s8_6) ?_
  refine sy (v := Ad (sp (v0)) (i * 3)) (y_ixR (m := i) Try.underlying38 sz48 (hC.st H6).rd (by decide) rfl rfl rfl (by omega)) ?_
  refine sy (v := Ad (sp (v0)) ((i * 3) + 0)) (y_fld Try.underlying48 rfl rfl sz3 (by decide) rfl) ?_
  refine sy (v := I ((cs.getD i c0).c.k)) (y_load sc3 rfl ((hC.st H6).rd.cell _ _ (flat3_get (i := i) (j := 0) (d := c0) (by omega) rfl))) ?_
  refine sy (v := I (kind)) (y_move s1_6) ?_
  refine sy (v := .bool (decide (((cs.getD i c0).c.k) = kind))) (y_eqlK (i := ((cs.getD i c0).c.k)) (j := kind) rfl rfl) ?_
  refine sy (v := .bool (decide (((cs.getD i c0).c.k) = kind))) (y_move rfl) ?_
  by_cases hp8 : ((cs.getD i c0).c.k) = kind
  ·
   refine gsy (v := v0) (gv_of (t := 22) rfl rfl rfl) (decide_eq_true hp8) (y_move s0_6) ?_
   refine gsy (v := I ((i : Nat) : Int)) (gv_of (t := 22) rfl rfl rfl) (decide_eq_true hp8) (y_move s8_6) ?_
   refine gsy (v := Ad (sp (v0)) (i * 3)) (gv_of (t := 22) rfl rfl rfl) (decide_eq_true hp8) (y_ixR (m := i) Try.underlying38 sz48 (hC.st H6).rd (by decide) rfl rfl rfl (by omega)) ?_
   refine gsy (v := Ad (sp (v0)) ((i * 3) + 1)) (gv_of (t := 22) rfl rfl rfl) (decide_eq_true hp8) (y_fld Try.underlying48 rfl rfl sz9 (by decide) rfl) ?_
   refine gsy (v := .string (bst ((cs.getD i c0).c.key))) (gv_of (t := 22) rfl rfl rfl) (decide_eq_true hp8) (y_load sc9 rfl ((hC.st H6).rd.cell _ _ (flat3_get (i := i) (j := 1) (d := c0) (by omega) rfl))) ?_
   refine gsy (v := .string (bst key)) (gv_of (t := 22) rfl rfl rfl) (decide_eq_true hp8) (y_move s2_6) ?_
   refine gsy (v := .bool (decide (((cs.getD i c0).c.key) = key))) (gv_of (t := 22) rfl rfl rfl) (decide_eq_true hp8) (y_eqlS (a := (cs.getD i c0).c.key) (b := key) rfl rfl) ?_
   refine sy (v := .bool (decide (((cs.getD i c0).c.key) = key))) (y_pickT rfl (decide_eq_true hp8) rfl) ?_
   refine c_nil ?_
   refine n_then ?_
   refine c_if rfl (fun hc9 => ?_) (fun hc9 => ?_)
   ·
    refine c_seq ?_
    refine c_reg ?_
    refine sy (v := v0) (y_move s0_6) ?_
    refine sy (v := I ((i : Nat) : Int)) (y_move s8_6) ?_
    refine sy (v := Ad (sp (v0)) (i * 3)) (y_ixR (m := i) Try.underlying38 sz48 (hC.st H6).rd (by decide) rfl rfl rfl (by omega)) ?_
    refine sy (v := .agg ([I ((cs.getD i c0).c.k), .string (bst ((cs.getD i c0).c.key)), (cs.getD i c0).v]).toArray) (y_loadA (us := (cs.getD i c0).cs) ag48 sz48 rfl rfl (fun j u hu => (hC.st H6).rd.cell _ _ (flat3_get (by omega) hu))) ?_
    refine s0 (ow_storeW (us := [I ((cs.getD i c0).c.k), .string (bst ((cs.getD i c0).c.key)), (cs.getD i c0).v]) H6 sz48 rfl s6_6 rfl (by intro u hu; simp only [List.mem_cons, List.not_mem_nil, or_false] at hu; rcases hu with rfl | rfl | rfl <;> first | rfl | exact Rd.one ((hC.at (d := c0) (i := i) (by omega)).1.st H6)) (by simp [*])) ?_
    rintro _ w10 H11'
    have H11 : St w _ [[(g1, Rw 48 ([I ((cs.getD i c0).c.k), .string (bst ((cs.getD i c0).c.key)), (cs.getD i c0).v]))]] w10 := H11'
    refine sy (v := .bool (true)) (y_assign (v := .bool (true)) rfl) ?_
    refine c_nil ?_
    refine n_then ?_
    refine wp_ret ?_
    refine r_block (r_then (r_then (r_block (r_then ?_))))
    refine e_r2 Try.results38 (rv_b H11 (i := 0) rfl ag48 sz48 rfl s6_6) (rv_t rfl) ?_
    exact ⟨_, rfl, (cs.getD i c0), true, rfl, .inr ⟨rfl, i, by omega, plc_zero.2 ⟨by assumption, by assumption⟩, rfl⟩, H11.below⟩
   ·
    refine wp_skip ?_
    refine n_block (n_then ?_)
    refine c_reg ?_
    refine sy (v := I ((i : Nat) : Int)) (y_move s8_6) ?_
    refine sy (v := I ((i + 1 : Nat) : Int)) (n_add (a := i) (b := 1) rfl rfl (by omega)) ?_
    refine sy (v := I ((i + 1 : Nat) : Int)) (y_assign rfl) ?_
    refine c_nil ?_
    exact lp_next (i + 1) ⟨s0_6, s1_6, s2_6, s6_6, rfl, (by omega), (fun j hj => by
     by_cases e : j = i
     · rw [e]; intro hh; have q1 := (plc_zero.1 hh).1; have q2 := (plc_zero.1 hh).2; first | (exact absurd q1 (by assumption)) | (exact absurd q2 (by assumption))
     · exact hz j (by omega)), H6⟩ (by show _ < _; omega)
  ·
   refine gno (gv_of (t := 22) rfl rfl rfl) (decide_eq_false hp8) ?_
   refine gno (gv_of (t := 22) rfl rfl rfl) (decide_eq_false hp8) ?_
   refine gno (gv_of (t := 22) rfl rfl rfl) (decide_eq_false hp8) ?_
   refine gno (gv_of (t := 22) rfl rfl rfl) (decide_eq_false hp8) ?_
   refine gno (gv_of (t := 22) rfl rfl rfl) (decide_eq_false hp8) ?_
   refine gno (gv_of (t := 22) rfl rfl rfl) (decide_eq_false hp8) ?_
   refine gno (gv_of (t := 22) rfl rfl rfl) (decide_eq_false hp8) ?_
   refine sy (v := .bool (false)) (y_pickF (v := .bool (false)) rfl (decide_eq_false hp8) rfl) ?_
   refine c_nil ?_
   refine n_then ?_
   refine c_f rfl rfl ?_
   refine wp_skip ?_
   refine n_block (n_then ?_)
   refine c_reg ?_
   refine sy (v := I ((i : Nat) : Int)) (y_move s8_6) ?_
   refine sy (v := I ((i + 1 : Nat) : Int)) (n_add (a := i) (b := 1) rfl rfl (by omega)) ?_
   refine sy (v := I ((i + 1 : Nat) : Int)) (y_assign rfl) ?_
   refine c_nil ?_
   exact lp_next (i + 1) ⟨s0_6, s1_6, s2_6, s6_6, rfl, (by omega), (fun j hj => by
    by_cases e : j = i
    · rw [e]; intro hh; have q1 := (plc_zero.1 hh).1; have q2 := (plc_zero.1 hh).2; first | (exact absurd q1 (by assumption)) | (exact absurd q2 (by assumption))
    · exact hz j (by omega)), H6⟩ (by show _ < _; omega)
 ·
  refine wp_exit ?_
  refine x_then (x_then (x_hit (n_then ?_)))
  refine c_seq ?_
  refine c_reg ?_
  refine sy (v := .agg ([I ((0 : Nat) : Int), .string .empty, .slice none 0 0]).toArray) (y_build (parts := []) (pv := []) (us := [I ((0 : Nat) : Int), .string (.empty), .slice none 0 0]) trivial (by kernel_rfl)) ?_
  refine s0 (ow_storeW (us := [I ((0 : Nat) : Int), .string (.empty), .slice none 0 0]) H6 sz48 rfl s6_6 rfl (by simp [Value.oneCell']) (by simp [*])) ?_
  rintro _ w12 H13'
  have H13 : St w _ [[(g1, Rw 48 ([I ((0 : Nat) : Int), .string (.empty), .slice none 0 0]))]] w12 := H13'
  refine sy (v := .bool (false)) (y_assign (v := .bool (false)) rfl) ?_
  refine c_nil ?_
  refine n_then ?_
  refine wp_ret ?_
  refine e_r2 Try.results38 (rv_b H13 (i := 0) rfl ag48 sz48 rfl s6_6) (rv_t rfl) ?_
  exact ⟨_, rfl, c0, false, rfl, .inl ⟨rfl, rfl, fun j hj => hz j (by omega)⟩, H13.below⟩

set_option maxHeartbeats 2000000 in
set_option maxRecDepth 20000 in
theorem rootsTells_c (v0 : Value) (cs : List Cl) (kind : Int) (key : List UInt8) (n : Int) (lv : Value) (ls : List Lf) (w : World) (hC : CsR [] w v0 cs) (hL : LsR [] w lv ls) :
    Calls Try.prog 20 (([.agg ([v0, I kind, .string (bst key), I n, lv]).toArray] : List Value).toArray) w (fun e w' => ∃ v, e = .returned v ∧ v = .bool true ∧ Below w.heap.size w w') := by
 have hle := hC.le
 refine calls_mk Try.func20 rfl 103 Try.ntmps20 rfl ?_
 have H0 : St w [] [] w := St.refl w
 refine c_seq ?_
 refine c_reg ?_
 refine st (ow_box (l := [v0, I (kind), .string (bst key), I (n), lv]) H0 rfl rfl) ?_
 rintro _ w2 ⟨g1, rfl, H3⟩
 refine sy (v := .bool (false)) (y_assign (v := .bool (false)) rfl) ?_
 refine c_nil ?_
 refine n_then ?_
 refine c_seq ?_
 refine c_reg ?_
 refine sy (v := Ad (bs g1) (0 + 0)) (y_fld Try.underlying43 rfl rfl sz38 (by decide) rfl) ?_
 refine sy (v := v0) (y_load sc38 rfl (H3.cell 0 rfl rfl)) ?_
 refine st (ow_call fn32 rfl (Root_c (v0) (cs) _ (hC.st H3).nil) ⟨rfl, trivial⟩) ?_
 rintro _ w4 ⟨rfl, hB5⟩
 have H6 : St w _ [_] w4 := H3.call hB5
 refine sy (v := .tuple #[.agg ((rootA (cs.map (fun q : Cl => q.c))).map B8).toArray, I ((wrong (cs.map (fun q : Cl => q.c)) : Nat) : Int)]) (y_move rfl) ?_
 refine sy (v := .agg ((rootA (cs.map (fun q : Cl => q.c))).map B8).toArray) (y_extract (i := 0) rfl rfl) ?_
 refine sy (v := I ((wrong (cs.map (fun q : Cl => q.c)) : Nat) : Int)) (y_extract (i := 1) rfl rfl) ?_
 refine st (ow_alloc (l := (List.replicate 32 0).map B8) H6 zr26 (by simp [Value.cells])) ?_
 rintro _ w8 ⟨g7, rfl, H9⟩
 refine s0 (ow_storeW (us := (rootA (cs.map (fun q : Cl => q.c))).map B8) H9 sz26 ((List.length_map _).trans (rootA_len (cs.map (fun q : Cl => q.c)))) rfl rfl (map_one (F := B8) (fun _ => rfl) _) ((List.length_map _).trans List.length_replicate)) ?_
 rintro _ w10 H11'
 have H11 : St w _ [[(g7, Rw 26 ((rootA (cs.map (fun q : Cl => q.c))).map B8))], _] w10 := H11'
 refine sy (v := I ((wrong (cs.map (fun q : Cl => q.c)) : Nat) : Int)) (y_assign rfl) ?_
 refine c_nil ?_
 refine n_then ?_
 refine c_seq ?_
 refine c_reg ?_
 refine sy (v := Ad (bs g1) (0 + 0)) (y_fld Try.underlying43 rfl rfl sz38 (by decide) rfl) ?_
 refine sy (v := v0) (y_load sc38 rfl (H11.cell 1 rfl rfl)) ?_
 refine sy (v := Ad (bs g1) (0 + 1)) (y_fld Try.underlying43 rfl rfl sz3 (by decide) rfl) ?_
 refine sy (v := I (kind)) (y_load sc3 rfl (H11.cell 1 rfl rfl)) ?_
 refine sy (v := Ad (bs g1) (0 + 2)) (y_fld Try.underlying43 rfl rfl sz9 (by decide) rfl) ?_
 refine sy (v := .string (bst key)) (y_load sc9 rfl (H11.cell 1 rfl rfl)) ?_
 refine st (ow_call fn37 rfl (find_c (kind) (key) (v0) cs _ (hC.st H11).nil) ⟨rfl, rfl, rfl, trivial⟩) ?_
 rintro _ w17 ⟨n12, lv13, ls14, err15, EB16, rfl, hF19, hP20, H18⟩
 have H21 : St w _ [_, _, _] w17 := H11.app H18
 refine sy (v := .tuple #[.agg ([I ((n12 : Nat) : Int), lv13]).toArray, I ((err15 : Nat) : Int)]) (y_move rfl) ?_
 refine sy (v := .agg ([I ((n12 : Nat) : Int), lv13]).toArray) (y_extract (i := 0) rfl rfl) ?_
 refine sy (v := I ((err15 : Nat) : Int)) (y_extract (i := 1) rfl rfl) ?_
 refine st (ow_alloc (l := [I ((0 : Nat) : Int), .slice none 0 0]) H21 zr41 rfl) ?_
 rintro _ w23 ⟨g22, rfl, H24⟩
 refine s0 (ow_storeW (us := [I ((n12 : Nat) : Int), lv13]) H24 sz41 rfl rfl rfl (by intro u hu; simp only [List.mem_cons, List.not_mem_nil, or_false] at hu; rcases hu with rfl | rfl <;> first | rfl | exact Rd.one (LsP.rd hP20 H24 1 rfl).rd) (by simp [*])) ?_
 rintro _ w25 H26'
 have H26 : St w _ [[(g22, Rw 41 ([I ((n12 : Nat) : Int), lv13]))], _, _, _] w25 := H26'
 refine sy (v := I ((err15 : Nat) : Int)) (y_assign rfl) ?_
 refine c_nil ?_
 refine n_then ?_
 refine c_seq ?_
 refine c_reg ?_
 refine sy (v := Ad (bs g1) (0 + 0)) (y_fld Try.underlying43 rfl rfl sz38 (by decide) rfl) ?_
 refine sy (v := v0) (y_load sc38 rfl (H26.cell 3 rfl rfl)) ?_
 refine st (ow_call fn33 rfl (Wrong_c (v0) (cs) _ (hC.st H26).nil) ⟨rfl, trivial⟩) ?_
 rintro _ w27 ⟨rfl, hB28⟩
 have H29 : St w _ [_, _, _, _] w27 := H26.call hB28
 refine sy (v := I ((wrong (cs.map (fun q : Cl => q.c)) : Nat) : Int)) (y_assign rfl) ?_
 refine c_nil ?_
 refine n_then ?_
 refine c_seq ?_
 refine c_seq ?_
 refine c_reg ?_
 refine sy (v := I ((wrong (cs.map (fun q : Cl => q.c)) : Nat) : Int)) (y_move rfl) ?_
 refine sy (v := .bool (decide ((wrong (cs.map (fun q : Cl => q.c))) ≠ 0))) (n_neq (a := wrong (cs.map (fun q : Cl => q.c))) (b := 0) rfl rfl) ?_
 refine sy (v := .bool (decide ((wrong (cs.map (fun q : Cl => q.c))) ≠ 0))) (y_move rfl) ?_
 by_cases hp30 : (wrong (cs.map (fun q : Cl => q.c))) ≠ 0
 ·
  refine gno (gv_of (t := 34) rfl rfl rfl) (decide_eq_true hp30) ?_
  refine gno (gv_of (t := 34) rfl rfl rfl) (decide_eq_true hp30) ?_
  refine gno (gv_of (t := 34) rfl rfl rfl) (decide_eq_true hp30) ?_
  refine sy (v := .bool (true)) (y_pickT (v := .bool (true)) rfl (decide_eq_true hp30) rfl) ?_
  refine sy (v := .bool (true)) (y_move rfl) ?_
  refine gno (t := true) (b := false) (gv_of (t := 39) rfl rfl rfl) (rfl) ?_
  refine gno (t := true) (b := false) (gv_of (t := 39) rfl rfl rfl) (rfl) ?_
  refine gno (t := true) (b := false) (gv_of (t := 39) rfl rfl rfl) (rfl) ?_
  refine sy (v := .bool (true)) (y_pickT (v := .bool (true)) rfl (rfl) rfl) ?_
  refine c_nil ?_
  refine n_then ?_
  refine c_t rfl rfl ?_
  refine c_seq ?_
  have hbad : ¬ (kMay kind ∧ wrong (PL cs) = 0) := fun ⟨h1, h2⟩ => by
   have h3 := h1.1
   have h4 := h1.2
   first
    | exact absurd h2 (by assumption)
    | omega
  obtain ⟨hn0, hls0, he0⟩ := FindsA.bad hF19 hbad
  refine c_reg ?_
  refine sy (v := I ((wrong (cs.map (fun q : Cl => q.c)) : Nat) : Int)) (y_move rfl) ?_
  refine sy (v := .bool (decide ((wrong (cs.map (fun q : Cl => q.c))) ≠ 0))) (n_neq (a := wrong (cs.map (fun q : Cl => q.c))) (b := 0) rfl rfl) ?_
  refine sy (v := I ((wrong (cs.map (fun q : Cl => q.c)) : Nat) : Int)) (y_move rfl) ?_
  refine sy (v := .bool (decide ((wrong (cs.map (fun q : Cl => q.c))) ≠ 0))) (n_neq (a := wrong (cs.map (fun q : Cl => q.c))) (b := 0) rfl rfl) ?_
  have e31 : ((decide ((wrong (cs.map (fun q : Cl => q.c))) ≠ 0)) == (decide ((wrong (cs.map (fun q : Cl => q.c))) ≠ 0))) = true := beq_self_eq_true _
  refine sy (v := .bool (true)) ((e31 ▸ y_eqlB (p := decide ((wrong (cs.map (fun q : Cl => q.c))) ≠ 0)) (q := decide ((wrong (cs.map (fun q : Cl => q.c))) ≠ 0)) rfl rfl Try.underlying4)) ?_
  refine sy (v := .bool (true)) (y_move rfl) ?_
  refine gsy (v := I ((err15 : Nat) : Int)) (gv_of (t := 49) rfl rfl rfl) (rfl) (y_move rfl) ?_
  refine gsy (v := .bool (decide (err15 ≠ 0))) (gv_of (t := 49) rfl rfl rfl) (rfl) (n_neq (a := err15) (b := 0) rfl rfl) ?_
  refine sy (v := .bool (decide (err15 ≠ 0))) (y_pickT rfl (rfl) rfl) ?_
  refine sy (v := .bool (decide (err15 ≠ 0))) (y_move rfl) ?_
  have hq32 : err15 ≠ 0 := he0
  refine gsy (v := .agg ([I ((n12 : Nat) : Int), lv13]).toArray) (gv_of (t := 53) rfl rfl rfl) (decide_eq_true hq32) (y_loadA (us := [I ((n12 : Nat) : Int), lv13]) ag41 sz41 rfl rfl (fun j u hu => (H29.cell 0 rfl (by rw [Nat.zero_add]; exact hu)))) ?_
  refine gsy (v := .agg ([I ((0 : Nat) : Int), .slice none 0 0]).toArray) (gv_of (t := 53) rfl rfl rfl) (decide_eq_true hq32) (y_build (parts := []) (pv := []) (us := [I ((0 : Nat) : Int), .slice none 0 0]) trivial (by kernel_rfl)) ?_
  refine gst (gv_of (t := 53) rfl rfl rfl) (decide_eq_true hq32) (ow_call fn39 rfl (samew_yes (n := ((n12 : Nat) : Int)) (m := ((0 : Nat) : Int)) (ls := ls14) (ks := ([] : List Lf)) (LsP.rd hP20 H29 1 rfl) lsr_nil ⟨congrArg (fun q : Nat => (q : Int)) hn0, hls0⟩) ⟨rfl, rfl, trivial⟩) ?_
  rintro _ w33 ⟨rfl, hB34⟩
  have H35 : St w _ [_, _, _, _] w33 := H29.call hB34
  refine sy (v := .bool (true)) (y_pickT rfl (decide_eq_true hq32) rfl) ?_
  refine sy (v := .bool (true)) (y_move rfl) ?_
  refine gst (gv_of (t := 58) rfl rfl rfl) (rfl) (ow_call fn34 rfl (fixed19_c _) trivial) ?_
  rintro _ w36 ⟨rfl, hB37⟩
  have H38 : St w _ [_, _, _, _] w36 := H35.call hB37
  refine sy (v := .bool (true)) (y_pickT rfl (rfl) rfl) ?_
  refine sy (v := .bool (true)) (y_assign rfl) ?_
  refine c_nil ?_
  refine n_then ?_
  refine wp_ret ?_
  refine r_then ?_
  refine e_r1 Try.results20 (rv_t rfl) ?_
  exact ⟨_, rfl, rfl, H38.below⟩
 ·
  refine gsy (v := Ad (bs g1) (0 + 1)) (gv_of (t := 34) rfl rfl rfl) (decide_eq_false hp30) (y_fld Try.underlying43 rfl rfl sz3 (by decide) rfl) ?_
  refine gsy (v := I (kind)) (gv_of (t := 34) rfl rfl rfl) (decide_eq_false hp30) (y_load sc3 rfl (H29.cell 3 rfl rfl)) ?_
  refine gsy (v := .bool (decide (kind < ((1 : Nat) : Int)))) (gv_of (t := 34) rfl rfl rfl) (decide_eq_false hp30) (y_lss (i := kind) (j := ((1 : Nat) : Int)) rfl rfl) ?_
  refine sy (v := .bool (decide (kind < ((1 : Nat) : Int)))) (y_pickF rfl (decide_eq_false hp30) rfl) ?_
  refine sy (v := .bool (decide (kind < ((1 : Nat) : Int)))) (y_move rfl) ?_
  by_cases hp39 : kind < ((1 : Nat) : Int)
  ·
   refine gno (gv_of (t := 39) rfl rfl rfl) (decide_eq_true hp39) ?_
   refine gno (gv_of (t := 39) rfl rfl rfl) (decide_eq_true hp39) ?_
   refine gno (gv_of (t := 39) rfl rfl rfl) (decide_eq_true hp39) ?_
   refine sy (v := .bool (true)) (y_pickT (v := .bool (true)) rfl (decide_eq_true hp39) rfl) ?_
   refine c_nil ?_
   refine n_then ?_
   refine c_t rfl rfl ?_
   refine c_seq ?_
   have hbad : ¬ (kMay kind ∧ wrong (PL cs) = 0) := fun ⟨h1, h2⟩ => by
    have h3 := h1.1
    have h4 := h1.2
    first
     | exact absurd h2 (by assumption)
     | omega
   obtain ⟨hn0, hls0, he0⟩ := FindsA.bad hF19 hbad
   refine c_reg ?_
   refine sy (v := I ((wrong (cs.map (fun q : Cl => q.c)) : Nat) : Int)) (y_move rfl) ?_
   refine sy (v := .bool (decide ((wrong (cs.map (fun q : Cl => q.c))) ≠ 0))) (n_neq (a := wrong (cs.map (fun q : Cl => q.c))) (b := 0) rfl rfl) ?_
   refine sy (v := I ((wrong (cs.map (fun q : Cl => q.c)) : Nat) : Int)) (y_move rfl) ?_
   refine sy (v := .bool (decide ((wrong (cs.map (fun q : Cl => q.c))) ≠ 0))) (n_neq (a := wrong (cs.map (fun q : Cl => q.c))) (b := 0) rfl rfl) ?_
   have e40 : ((decide ((wrong (cs.map (fun q : Cl => q.c))) ≠ 0)) == (decide ((wrong (cs.map (fun q : Cl => q.c))) ≠ 0))) = true := beq_self_eq_true _
   refine sy (v := .bool (true)) ((e40 ▸ y_eqlB (p := decide ((wrong (cs.map (fun q : Cl => q.c))) ≠ 0)) (q := decide ((wrong (cs.map (fun q : Cl => q.c))) ≠ 0)) rfl rfl Try.underlying4)) ?_
   refine sy (v := .bool (true)) (y_move rfl) ?_
   refine gsy (v := I ((err15 : Nat) : Int)) (gv_of (t := 49) rfl rfl rfl) (rfl) (y_move rfl) ?_
   refine gsy (v := .bool (decide (err15 ≠ 0))) (gv_of (t := 49) rfl rfl rfl) (rfl) (n_neq (a := err15) (b := 0) rfl rfl) ?_
   refine sy (v := .bool (decide (err15 ≠ 0))) (y_pickT rfl (rfl) rfl) ?_
   refine sy (v := .bool (decide (err15 ≠ 0))) (y_move rfl) ?_
   have hq41 : err15 ≠ 0 := he0
   refine gsy (v := .agg ([I ((n12 : Nat) : Int), lv13]).toArray) (gv_of (t := 53) rfl rfl rfl) (decide_eq_true hq41) (y_loadA (us := [I ((n12 : Nat) : Int), lv13]) ag41 sz41 rfl rfl (fun j u hu => (H29.cell 0 rfl (by rw [Nat.zero_add]; exact hu)))) ?_
   refine gsy (v := .agg ([I ((0 : Nat) : Int), .slice none 0 0]).toArray) (gv_of (t := 53) rfl rfl rfl) (decide_eq_true hq41) (y_build (parts := []) (pv := []) (us := [I ((0 : Nat) : Int), .slice none 0 0]) trivial (by kernel_rfl)) ?_
   refine gst (gv_of (t := 53) rfl rfl rfl) (decide_eq_true hq41) (ow_call fn39 rfl (samew_yes (n := ((n12 : Nat) : Int)) (m := ((0 : Nat) : Int)) (ls := ls14) (ks := ([] : List Lf)) (LsP.rd hP20 H29 1 rfl) lsr_nil ⟨congrArg (fun q : Nat => (q : Int)) hn0, hls0⟩) ⟨rfl, rfl, trivial⟩) ?_
   rintro _ w42 ⟨rfl, hB43⟩
   have H44 : St w _ [_, _, _, _] w42 := H29.call hB43
   refine sy (v := .bool (true)) (y_pickT rfl (decide_eq_true hq41) rfl) ?_
   refine sy (v := .bool (true)) (y_move rfl) ?_
   refine gst (gv_of (t := 58) rfl rfl rfl) (rfl) (ow_call fn34 rfl (fixed19_c _) trivial) ?_
   rintro _ w45 ⟨rfl, hB46⟩
   have H47 : St w _ [_, _, _, _] w45 := H44.call hB46
   refine sy (v := .bool (true)) (y_pickT rfl (rfl) rfl) ?_
   refine sy (v := .bool (true)) (y_assign rfl) ?_
   refine c_nil ?_
   refine n_then ?_
   refine wp_ret ?_
   refine r_then ?_
   refine e_r1 Try.results20 (rv_t rfl) ?_
   exact ⟨_, rfl, rfl, H47.below⟩
  ·
   refine gsy (v := Ad (bs g1) (0 + 1)) (gv_of (t := 39) rfl rfl rfl) (decide_eq_false hp39) (y_fld Try.underlying43 rfl rfl sz3 (by decide) rfl) ?_
   refine gsy (v := I (kind)) (gv_of (t := 39) rfl rfl rfl) (decide_eq_false hp39) (y_load sc3 rfl (H29.cell 3 rfl rfl)) ?_
   refine gsy (v := .bool (decide (((4 : Nat) : Int) < kind))) (gv_of (t := 39) rfl rfl rfl) (decide_eq_false hp39) (y_gtr (i := kind) (j := ((4 : Nat) : Int)) rfl rfl) ?_
   refine sy (v := .bool (decide (((4 : Nat) : Int) < kind))) (y_pickF rfl (decide_eq_false hp39) rfl) ?_
   refine c_nil ?_
   refine n_then ?_
   refine c_if rfl (fun hc48 => ?_) (fun hc48 => ?_)
   ·
    refine c_seq ?_
    have hbad : ¬ (kMay kind ∧ wrong (PL cs) = 0) := fun ⟨h1, h2⟩ => by
     have h3 := h1.1
     have h4 := h1.2
     first
      | exact absurd h2 (by assumption)
      | omega
    obtain ⟨hn0, hls0, he0⟩ := FindsA.bad hF19 hbad
    refine c_reg ?_
    refine sy (v := I ((wrong (cs.map (fun q : Cl => q.c)) : Nat) : Int)) (y_move rfl) ?_
    refine sy (v := .bool (decide ((wrong (cs.map (fun q : Cl => q.c))) ≠ 0))) (n_neq (a := wrong (cs.map (fun q : Cl => q.c))) (b := 0) rfl rfl) ?_
    refine sy (v := I ((wrong (cs.map (fun q : Cl => q.c)) : Nat) : Int)) (y_move rfl) ?_
    refine sy (v := .bool (decide ((wrong (cs.map (fun q : Cl => q.c))) ≠ 0))) (n_neq (a := wrong (cs.map (fun q : Cl => q.c))) (b := 0) rfl rfl) ?_
    have e49 : ((decide ((wrong (cs.map (fun q : Cl => q.c))) ≠ 0)) == (decide ((wrong (cs.map (fun q : Cl => q.c))) ≠ 0))) = true := beq_self_eq_true _
    refine sy (v := .bool (true)) ((e49 ▸ y_eqlB (p := decide ((wrong (cs.map (fun q : Cl => q.c))) ≠ 0)) (q := decide ((wrong (cs.map (fun q : Cl => q.c))) ≠ 0)) rfl rfl Try.underlying4)) ?_
    refine sy (v := .bool (true)) (y_move rfl) ?_
    refine gsy (v := I ((err15 : Nat) : Int)) (gv_of (t := 49) rfl rfl rfl) (rfl) (y_move rfl) ?_
    refine gsy (v := .bool (decide (err15 ≠ 0))) (gv_of (t := 49) rfl rfl rfl) (rfl) (n_neq (a := err15) (b := 0) rfl rfl) ?_
    refine sy (v := .bool (decide (err15 ≠ 0))) (y_pickT rfl (rfl) rfl) ?_
    refine sy (v := .bool (decide (err15 ≠ 0))) (y_move rfl) ?_
    have hq50 : err15 ≠ 0 := he0
    refine gsy (v := .agg ([I ((n12 : Nat) : Int), lv13]).toArray) (gv_of (t := 53) rfl rfl rfl) (decide_eq_true hq50) (y_loadA (us := [I ((n12 : Nat) : Int), lv13]) ag41 sz41 rfl rfl (fun j u hu => (H29.cell 0 rfl (by rw [Nat.zero_add]; exact hu)))) ?_
    refine gsy (v := .agg ([I ((0 : Nat) : Int), .slice none 0 0]).toArray) (gv_of (t := 53) rfl rfl rfl) (decide_eq_true hq50) (y_build (parts := []) (pv := []) (us := [I ((0 : Nat) : Int), .slice none 0 0]) trivial (by kernel_rfl)) ?_
    refine gst (gv_of (t := 53) rfl rfl rfl) (decide_eq_true hq50) (ow_call fn39 rfl (samew_yes (n := ((n12 : Nat) : Int)) (m := ((0 : Nat) : Int)) (ls := ls14) (ks := ([] : List Lf)) (LsP.rd hP20 H29 1 rfl) lsr_nil ⟨congrArg (fun q : Nat => (q : Int)) hn0, hls0⟩) ⟨rfl, rfl, trivial⟩) ?_
    rintro _ w51 ⟨rfl, hB52⟩
    have H53 : St w _ [_, _, _, _] w51 := H29.call hB52
    refine sy (v := .bool (true)) (y_pickT rfl (decide_eq_true hq50) rfl) ?_
    refine sy (v := .bool (true)) (y_move rfl) ?_
    refine gst (gv_of (t := 58) rfl rfl rfl) (rfl) (ow_call fn34 rfl (fixed19_c _) trivial) ?_
    rintro _ w54 ⟨rfl, hB55⟩
    have H56 : St w _ [_, _, _, _] w54 := H53.call hB55
    refine sy (v := .bool (true)) (y_pickT rfl (rfl) rfl) ?_
    refine sy (v := .bool (true)) (y_assign rfl) ?_
    refine c_nil ?_
    refine n_then ?_
    refine wp_ret ?_
    refine r_then ?_
    refine e_r1 Try.results20 (rv_t rfl) ?_
    exact ⟨_, rfl, rfl, H56.below⟩
   ·
    refine wp_skip ?_
    refine n_then ?_
    refine c_seq ?_
    refine c_seq ?_
    have hkm : kMay kind := ⟨by omega, by omega⟩
    have hwr : wrong (PL cs) = 0 := Decidable.not_not.1 (show ¬ ¬ (wrong (PL cs) = 0) by assumption)
    obtain ⟨hn1, he1, p, hIs, hls⟩ := FindsA.good hF19 hkm hwr
    rw [List.length_map] at hn1
    have hck : checkA (rootA (PL cs)) kind key ((n12 : Nat) : Int) (PE ls14) = (0, tellsA kind key (PL cs) p) := by
     rw [hls, hn1, ← List.length_map (f := fun q : Cl => q.c)]; exact check_found hkm hwr hIs
    refine c_reg ?_
    refine sy (v := I ((wrong (cs.map (fun q : Cl => q.c)) : Nat) : Int)) (y_move rfl) ?_
    refine sy (v := .bool (decide ((wrong (cs.map (fun q : Cl => q.c))) ≠ 0))) (n_neq (a := wrong (cs.map (fun q : Cl => q.c))) (b := 0) rfl rfl) ?_
    refine sy (v := .bool (decide ((wrong (cs.map (fun q : Cl => q.c))) ≠ 0))) (y_move rfl) ?_
    refine gsy (v := I ((err15 : Nat) : Int)) (gv_of (t := 63) rfl rfl rfl) (decide_eq_false hp30) (y_move rfl) ?_
    refine gsy (v := .bool (decide (err15 ≠ 0))) (gv_of (t := 63) rfl rfl rfl) (decide_eq_false hp30) (n_neq (a := err15) (b := 0) rfl rfl) ?_
    refine sy (v := .bool (decide (err15 ≠ 0))) (y_pickF rfl (decide_eq_false hp30) rfl) ?_
    refine c_nil ?_
    refine n_then ?_
    have hq57 : ¬ (err15 ≠ 0) := (not_not_intro he1)
    refine c_f rfl (decide_eq_false hq57) ?_
    refine wp_skip ?_
    refine n_then ?_
    refine c_seq ?_
    refine c_reg ?_
    refine sy (v := .agg ((rootA (cs.map (fun q : Cl => q.c))).map B8).toArray) (y_loadA (us := (rootA (cs.map (fun q : Cl => q.c))).map B8) ag26 sz26 ((List.length_map _).trans (rootA_len (cs.map (fun q : Cl => q.c)))) rfl (fun j u hu => (H29.cell 2 rfl (by rw [Nat.zero_add]; exact hu)))) ?_
    refine sy (v := Ad (bs g1) (0 + 1)) (y_fld Try.underlying43 rfl rfl sz3 (by decide) rfl) ?_
    refine sy (v := I (kind)) (y_load sc3 rfl (H29.cell 3 rfl rfl)) ?_
    refine sy (v := Ad (bs g1) (0 + 2)) (y_fld Try.underlying43 rfl rfl sz9 (by decide) rfl) ?_
    refine sy (v := .string (bst key)) (y_load sc9 rfl (H29.cell 3 rfl rfl)) ?_
    refine sy (v := .agg ([I ((n12 : Nat) : Int), lv13]).toArray) (y_loadA (us := [I ((n12 : Nat) : Int), lv13]) ag41 sz41 rfl rfl (fun j u hu => (H29.cell 0 rfl (by rw [Nat.zero_add]; exact hu)))) ?_
    refine st (ow_call fn35 rfl (check_c (rootA (PL cs)) kind key ((n12 : Nat) : Int) lv13 ls14 _ (rootA_len (cs.map (fun q : Cl => q.c))) (by omega) (by omega) (LsP.rd hP20 H29 1 rfl).nil) ⟨rfl, rfl, rfl, rfl, trivial⟩) ?_
    rintro _ w60 ⟨cc58, E59, rfl, hc62, ho63, H61⟩
    have H64 : St w _ [_, _, _, _, _] w60 := H29.app H61
    have hsmho63 : small cc58.c := by rw [hc62]; exact ck_small (LsP.rd hP20 H64 2 rfl)
    refine sy (v := .tuple #[.agg ([I cc58.c.k, .string (bst cc58.c.key), cc58.v]).toArray, .bool ((checkA (rootA (PL cs)) kind key ((n12 : Nat) : Int) (PE ls14)).2.isSome), I (((checkA (rootA (PL cs)) kind key ((n12 : Nat) : Int) (PE ls14)).1 : Nat) : Int)]) (y_move rfl) ?_
    refine sy (v := .agg ([I cc58.c.k, .string (bst cc58.c.key), cc58.v]).toArray) (y_extract (i := 0) rfl rfl) ?_
    refine sy (v := .bool ((checkA (rootA (PL cs)) kind key ((n12 : Nat) : Int) (PE ls14)).2.isSome)) (y_extract (i := 1) rfl rfl) ?_
    refine sy (v := I (((checkA (rootA (PL cs)) kind key ((n12 : Nat) : Int) (PE ls14)).1 : Nat) : Int)) (y_extract (i := 2) rfl rfl) ?_
    refine st (ow_alloc (l := [I ((0 : Nat) : Int), .string (.empty), .slice none 0 0]) H64 zr48 rfl) ?_
    rintro _ w66 ⟨g65, rfl, H67⟩
    refine s0 (ow_storeW (us := [I (cc58.c.k), .string (bst cc58.c.key), cc58.v]) H67 sz48 rfl rfl rfl (by intro u hu; simp only [List.mem_cons, List.not_mem_nil, or_false] at hu; rcases hu with rfl | rfl | rfl <;> first | rfl | exact Rd.one (ho63.rd H67 1 rfl)) (by simp [*])) ?_
    rintro _ w68 H69'
    have H69 : St w _ [[(g65, Rw 48 ([I (cc58.c.k), .string (bst cc58.c.key), cc58.v]))], _, _, _, _, _] w68 := H69'
    refine sy (v := .bool ((checkA (rootA (PL cs)) kind key ((n12 : Nat) : Int) (PE ls14)).2.isSome)) (y_assign rfl) ?_
    refine sy (v := I (((checkA (rootA (PL cs)) kind key ((n12 : Nat) : Int) (PE ls14)).1 : Nat) : Int)) (y_assign rfl) ?_
    refine c_nil ?_
    refine n_then ?_
    refine c_seq ?_
    refine c_reg ?_
    refine sy (v := Ad (bs g1) (0 + 0)) (y_fld Try.underlying43 rfl rfl sz38 (by decide) rfl) ?_
    refine sy (v := v0) (y_load sc38 rfl (H69.cell 5 rfl rfl)) ?_
    refine sy (v := Ad (bs g1) (0 + 1)) (y_fld Try.underlying43 rfl rfl sz3 (by decide) rfl) ?_
    refine sy (v := I (kind)) (y_load sc3 rfl (H69.cell 5 rfl rfl)) ?_
    refine sy (v := Ad (bs g1) (0 + 2)) (y_fld Try.underlying43 rfl rfl sz9 (by decide) rfl) ?_
    refine sy (v := .string (bst key)) (y_load sc9 rfl (H69.cell 5 rfl rfl)) ?_
    refine st (ow_call fn38 rfl (standsL_c kind key v0 cs _ (hC.st H69).nil) ⟨rfl, rfl, rfl, trivial⟩) ?_
    rintro _ w72 ⟨cs70, b71, rfl, hS74, hB73⟩
    have H76 : St w _ [_, _, _, _, _, _] w72 := H69.call hB73
    have hCs75 : CR [] w cs70 := hS74.cr hC
    refine sy (v := .tuple #[.agg ([I cs70.c.k, .string (bst cs70.c.key), cs70.v]).toArray, .bool (b71)]) (y_move rfl) ?_
    refine sy (v := .agg ([I cs70.c.k, .string (bst cs70.c.key), cs70.v]).toArray) (y_extract (i := 0) rfl rfl) ?_
    refine sy (v := .bool (b71)) (y_extract (i := 1) rfl rfl) ?_
    refine st (ow_alloc (l := [I ((0 : Nat) : Int), .string (.empty), .slice none 0 0]) H76 zr48 rfl) ?_
    rintro _ w78 ⟨g77, rfl, H79⟩
    refine s0 (ow_storeW (us := [I (cs70.c.k), .string (bst cs70.c.key), cs70.v]) H79 sz48 rfl rfl rfl (by intro u hu; simp only [List.mem_cons, List.not_mem_nil, or_false] at hu; rcases hu with rfl | rfl | rfl <;> first | rfl | exact Rd.one (hCs75.1.st H79)) (by simp [*])) ?_
    rintro _ w80 H81'
    have H81 : St w _ [[(g77, Rw 48 ([I (cs70.c.k), .string (bst cs70.c.key), cs70.v]))], _, _, _, _, _, _] w80 := H81'
    refine sy (v := .bool (b71)) (y_assign rfl) ?_
    refine c_nil ?_
    refine n_then ?_
    refine c_seq ?_
    obtain ⟨hst1, hst2⟩ := hS74.tells hwr hIs
    refine c_reg ?_
    refine sy (v := I (((checkA (rootA (PL cs)) kind key ((n12 : Nat) : Int) (PE ls14)).1 : Nat) : Int)) (y_move rfl) ?_
    refine sy (v := .bool (decide (((checkA (rootA (PL cs)) kind key ((n12 : Nat) : Int) (PE ls14)).1) = 0))) (n_eql (a := (checkA (rootA (PL cs)) kind key ((n12 : Nat) : Int) (PE ls14)).1) (b := 0) rfl rfl) ?_
    refine sy (v := .bool (decide (((checkA (rootA (PL cs)) kind key ((n12 : Nat) : Int) (PE ls14)).1) = 0))) (y_move rfl) ?_
    have hq82 : ((checkA (rootA (PL cs)) kind key ((n12 : Nat) : Int) (PE ls14)).1) = 0 := (by rw [hck])
    refine gsy (v := .bool ((checkA (rootA (PL cs)) kind key ((n12 : Nat) : Int) (PE ls14)).2.isSome)) (gv_of (t := 90) rfl rfl rfl) (decide_eq_true hq82) (y_move rfl) ?_
    refine gsy (v := .bool (b71)) (gv_of (t := 90) rfl rfl rfl) (decide_eq_true hq82) (y_move rfl) ?_
    have e83 : (((checkA (rootA (PL cs)) kind key ((n12 : Nat) : Int) (PE ls14)).2.isSome) == (b71)) = true := beq_iff_eq.2 (by rw [hck]; exact hst1)
    refine gsy (v := .bool (true)) (gv_of (t := 90) rfl rfl rfl) (decide_eq_true hq82) ((e83 ▸ y_eqlB (p := (checkA (rootA (PL cs)) kind key ((n12 : Nat) : Int) (PE ls14)).2.isSome) (q := b71) rfl rfl Try.underlying4)) ?_
    refine sy (v := .bool (true)) (y_pickT rfl (decide_eq_true hq82) rfl) ?_
    refine sy (v := .bool (true)) (y_move rfl) ?_
    refine gsy (v := .agg ([I cc58.c.k, .string (bst cc58.c.key), cc58.v]).toArray) (gv_of (t := 95) rfl rfl rfl) (rfl) (y_loadA (us := [I (cc58.c.k), .string (bst cc58.c.key), cc58.v]) ag48 sz48 rfl rfl (fun j u hu => (H81.cell 1 rfl (by rw [Nat.zero_add]; exact hu)))) ?_
    refine gsy (v := .agg ([I cs70.c.k, .string (bst cs70.c.key), cs70.v]).toArray) (gv_of (t := 95) rfl rfl rfl) (rfl) (y_loadA (us := [I (cs70.c.k), .string (bst cs70.c.key), cs70.v]) ag48 sz48 rfl rfl (fun j u hu => (H81.cell 0 rfl (by rw [Nat.zero_add]; exact hu)))) ?_
    refine gst (gv_of (t := 95) rfl rfl rfl) (rfl) (ow_call fn36 rfl (same_c cc58 cs70 _ ⟨ho63.rd H81 2 rfl, hsmho63⟩ (CR.st hCs75 H81).nil) ⟨rfl, rfl, trivial⟩) ?_
    rintro _ w84 ⟨rfl, hB85⟩
    have H86 : St w _ [_, _, _, _, _, _, _] w84 := H81.call hB85
    refine sy (v := .bool (decide (sameC cc58.c cs70.c))) (y_pickT rfl (rfl) rfl) ?_
    refine sy (v := .bool (decide (sameC cc58.c cs70.c))) (y_move rfl) ?_
    have hq87 : sameC cc58.c cs70.c := (by rw [hc62, hck, ← hst2]; exact ⟨rfl, rfl, rfl⟩)
    refine gst (gv_of (t := 100) rfl rfl rfl) (decide_eq_true hq87) (ow_call fn34 rfl (fixed19_c _) trivial) ?_
    rintro _ w88 ⟨rfl, hB89⟩
    have H90 : St w _ [_, _, _, _, _, _, _] w88 := H86.call hB89
    refine sy (v := .bool (true)) (y_pickT rfl (decide_eq_true hq87) rfl) ?_
    refine sy (v := .bool (true)) (y_assign rfl) ?_
    refine c_nil ?_
    refine n_then ?_
    refine wp_ret ?_
    refine e_r1 Try.results20 (rv_t rfl) ?_
    exact ⟨_, rfl, rfl, H90.below⟩

end Go.Proofs.Ytdcmbcjkdhdohaa
