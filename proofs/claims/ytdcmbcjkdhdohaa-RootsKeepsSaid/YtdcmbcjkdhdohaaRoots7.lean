/- Walks: bytes.Clone, roots.own. -/
import Derived.Test.YtdcmbcjkdhdohaaRoots6
namespace Go.Proofs.Ytdcmbcjkdhdohaa
open Go Go.RowKit
set_option linter.unusedSimpArgs false
set_option linter.unusedVariables false
attribute [local irreducible] wpList wpP Code.wp

attribute [local irreducible] leafH innerH topH rootH rootA sha

theorem clone_none (cp : Nat) (l : List UInt8) (w : World) (hR : Rd [] w 1 (.slice none l.length cp) l.length (l.map B8)) (hl : l.length ≤ 70368744177664) :
    Calls Try.prog 127 (([.slice none l.length cp] : List Value).toArray) w (fun e w' => ∃ v, e = .returned v ∧ ∃ E, OS 5 1 v l.length (l.map B8) E ∧ St w [] [E] w') := by
 refine calls_mk Try.func127 rfl 8 Try.ntmps127 rfl ?_
 have H0 : St w [] [] w := St.refl w
 refine c_seq ?_
 refine c_reg ?_
 refine sy (v := .slice none 0 0) (y_assign (v := .slice none 0 0) rfl) ?_
 refine c_nil ?_
 refine n_then ?_
 refine c_seq ?_
 refine c_seq ?_
 refine c_reg ?_
 refine sy (v := .slice none l.length cp) (y_move rfl) ?_
 refine sy (v := .bool (true)) (y_eqlSN (a := none) (k := l.length) (c := cp) Try.underlying23 rfl) ?_
 refine c_nil ?_
 refine n_then ?_
 refine c_t rfl rfl ?_
 refine c_seq ?_
 refine c_reg ?_
 refine sy (v := .slice none 0 0) (y_assign (v := .slice none 0 0) rfl) ?_
 refine c_nil ?_
 refine n_then ?_
 refine wp_ret ?_
 refine r_then ?_
 refine e_r1 Try.results127 (rv_t rfl) ?_
 have hl0 : l = [] := by
  by_cases h : 0 < (l.map B8).length
  · obtain ⟨p, n', c', hv⟩ := (hR.off h).2
    cases hv
  · rw [List.length_map] at h; exact List.eq_nil_of_length_eq_zero (by omega)
 subst hl0
 exact ⟨_, rfl, _, OS.nil 5 1, (H0.take 0 rfl).nilp⟩

theorem clone_some (p : Addr) (cp : Nat) (l : List UInt8) (w : World) (hR : Rd [] w 1 (.slice (some p) l.length cp) l.length (l.map B8)) (hl : l.length ≤ 70368744177664) :
    Calls Try.prog 127 (([.slice (some p) l.length cp] : List Value).toArray) w (fun e w' => ∃ v, e = .returned v ∧ ∃ E, OS 5 1 v l.length (l.map B8) E ∧ St w [] [E] w') := by
 refine calls_mk Try.func127 rfl 8 Try.ntmps127 rfl ?_
 have H0 : St w [] [] w := St.refl w
 refine c_seq ?_
 refine c_reg ?_
 refine sy (v := .slice none 0 0) (y_assign (v := .slice none 0 0) rfl) ?_
 refine c_nil ?_
 refine n_then ?_
 refine c_seq ?_
 refine c_seq ?_
 refine c_reg ?_
 refine sy (v := .slice (some p) l.length cp) (y_move rfl) ?_
 refine sy (v := .bool (false)) (y_eqlSN (a := (some p)) (k := l.length) (c := cp) Try.underlying23 rfl) ?_
 refine c_nil ?_
 refine n_then ?_
 refine c_f rfl rfl ?_
 refine wp_skip ?_
 refine n_then ?_
 refine c_seq ?_
 refine c_reg ?_
 refine st (ow_buildSlice (pv := []) (us := []) Try.underlying23 sz5 zr5 H0 trivial (by decide) fill0) ?_
 rintro _ w2 ⟨g1, rfl, H3⟩
 refine sy (v := .slice (some p) l.length cp) (y_move rfl) ?_
 refine st (ow_append Try.underlying23 sz5 zr5 bt5 rfl (os_lit (k := 0) rfl (by simp [maxLen])) H3 rfl rfl ((hR.st H3).src Try.underlying23 (map_one (F := B8) (fun _ => rfl) _)) (by first | omega | (simp only [List.length_append, List.length_cons, List.length_nil, List.length_take, List.length_drop, hmac_length, sha_length, List.length_replicate]; omega)) (by first | omega | (simp only [List.length_append, List.length_cons, List.length_nil, List.length_take, List.length_drop, hmac_length, sha_length, List.length_replicate]; omega))) ?_
 rintro v5 w6 ⟨E4, ho8', H7⟩
 have ho8 : OS 5 1 v5 (l).length ((l).map B8) E4 := by first | (have h := ho8'; rw [Nat.zero_add, List.nil_append] at h; exact h) | simpa using ho8'
 refine sy (v := v5) (y_assign rfl) ?_
 refine c_nil ?_
 refine n_then ?_
 refine wp_ret ?_
 refine e_r1 Try.results127 (rv_t rfl) ?_
 exact ⟨_, rfl, _, ho8, H7⟩

theorem clone_c (v0 : Value) (l : List UInt8) (w : World) (hR : Rd [] w 1 v0 l.length (l.map B8)) (hl : l.length ≤ 70368744177664) :
    Calls Try.prog 127 (([v0] : List Value).toArray) w (fun e w' => ∃ v, e = .returned v ∧ ∃ E, OS 5 1 v l.length (l.map B8) E ∧ St w [] [E] w') := by
  obtain ⟨a, cp, rfl, -⟩ := hR.shape
  cases a with
  | none => exact clone_none cp l w hR hl
  | some p => exact clone_some p cp l w hR hl

theorem own_c (c : Cl) (w : World) (hC : CR [] w c) :
    Calls Try.prog 90 (([.agg ([I c.c.k, .string (bst c.c.key), c.v]).toArray] : List Value).toArray) w (fun e w' => ∃ v, e = .returned v ∧ ∃ (v' : Value) (E : Part), v = .agg (Cl.cs ⟨c.c, v'⟩).toArray ∧ OS 5 1 v' c.c.l.length (c.c.l.map B8) E ∧ St w [] [E] w') := by
 have hsm := hC.2.2
 refine calls_mk Try.func90 rfl 8 Try.ntmps90 rfl ?_
 have H0 : St w [] [] w := St.refl w
 refine c_seq ?_
 refine c_reg ?_
 refine st (ow_box (l := [I (c.c.k), .string (bst c.c.key), c.v]) H0 rfl rfl) ?_
 rintro _ w2 ⟨g1, rfl, H3⟩
 refine st (ow_alloc (l := [I ((0 : Nat) : Int), .string (.empty), .slice none 0 0]) H3 zr48 rfl) ?_
 rintro _ w5 ⟨g4, rfl, H6⟩
 refine c_nil ?_
 refine n_then ?_
 refine c_seq ?_
 refine c_reg ?_
 refine sy (v := Ad (bs g1) (0 + 2)) (y_fld Try.underlying48 rfl rfl sz23 (by decide) rfl) ?_
 refine sy (v := c.v) (y_load sc23 rfl (H6.cell 1 rfl rfl)) ?_
 refine st (ow_call fn127 rfl (clone_c (c.v) c.c.l _ (hC.1.st H6).nil (by omega)) ⟨rfl, trivial⟩) ?_
 rintro v7 w9 ⟨E8, ho11, H10⟩
 have H12 : St w _ [_, _, _] w9 := H6.app H10
 refine sy (v := Ad (bs g1) (0 + 2)) (y_fld Try.underlying48 rfl rfl sz23 (by decide) rfl) ?_
 have H13 : St w _ [_, _, _] w9 := H12.foc 2 rfl rfl
 refine s0 (ow_store (j := 2) H13 sz23 rfl rfl (Rd.one (ho11.rd H13 1 rfl)) rfl (by simp)) ?_
 rintro _ w14 H15'
 have H15 : St w _ [[(g1, Rw 48 ([I (c.c.k), .string (bst c.c.key), v7]))], _, _] w14 := H15'
 refine c_nil ?_
 refine n_then ?_
 refine c_seq ?_
 refine c_reg ?_
 refine sy (v := .agg ([I c.c.k, .string (bst c.c.key), v7]).toArray) (y_loadA (us := [I (c.c.k), .string (bst c.c.key), v7]) ag48 sz48 rfl rfl (fun j u hu => (H15.cell 0 rfl (by rw [Nat.zero_add]; exact hu)))) ?_
 have H16 : St w _ [_, _, _] w14 := H15.foc 2 rfl rfl
 refine s0 (ow_storeW (us := [I (c.c.k), .string (bst c.c.key), v7]) H16 sz48 rfl rfl rfl (by intro u hu; simp only [List.mem_cons, List.not_mem_nil, or_false] at hu; rcases hu with rfl | rfl | rfl <;> first | rfl | exact Rd.one (ho11.rd H16 2 rfl)) (by simp [*])) ?_
 rintro _ w17 H18'
 have H18 : St w _ [[(g4, Rw 48 ([I (c.c.k), .string (bst c.c.key), v7]))], _, _] w17 := H18'
 refine c_nil ?_
 refine n_then ?_
 refine wp_ret ?_
 refine e_r1 Try.results90 (rv_b H18 (i := 0) rfl ag48 sz48 rfl rfl) ?_
 have H19 : St w _ [_, _, _] w17 := H18.foc 2 rfl rfl
 have H20 : St w _ [_] w17 := H19.take 1 rfl
 exact ⟨_, rfl, _, _, rfl, ho11, H20⟩

end Go.Proofs.Ytdcmbcjkdhdohaa
