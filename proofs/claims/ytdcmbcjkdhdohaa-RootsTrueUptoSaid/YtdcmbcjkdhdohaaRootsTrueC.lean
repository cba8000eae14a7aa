/- The walk of Clash. -/
import Derived.Test.YtdcmbcjkdhdohaaRootsS
namespace Go.Proofs.Ytdcmbcjkdhdohaa
open Go Go.RowKit
set_option linter.unusedSimpArgs false
set_option linter.unusedVariables false
attribute [local irreducible] wpList wpP Code.wp

theorem Rds.app {w : World} : ∀ {vs ws : List Value} {ls ks : List (List UInt8)}, Rds w vs ls → Rds w ws ks → Rds w (vs ++ ws) (ls ++ ks)
  | [], _, [], _, _, h => h
  | _ :: _, _, _ :: _, _, ⟨h1, h2⟩, h => ⟨h1, Rds.app h2 h⟩
theorem BkO.rd {w w0 : World} {X : List Nat} {L : List Part} {g : Nat} {rv : Value} {rows : List (List UInt8)} {EB : Part} (h : BkO g rv rows EB) (H : St w0 X L w) (i : Nat) (hi : L[i]? = some EB) : ∃ vs, Rd [] w 1 rv rows.length vs ∧ Rds w vs rows ∧ vs.length = rows.length := by
  obtain ⟨vs, E, F, rfl, ho, hr, h1, h2⟩ := h
  have H1 := H.foc i hi rfl
  exact ⟨vs, ho.rd H1.subL.subR 0 rfl, hr.rds H1.subR, hr.len⟩
theorem climbR_small : ∀ (m n i : Nat) (h : List UInt8) (path : List (List UInt8)), path.length ≤ m → h.length = 32 → H32 path → ∀ x ∈ climbR n i h path, x.length ≤ 65
  | m, n, i, h, path, hm, hh, hp32, x, hx => by
    by_cases hn : n = 1
    · by_cases hp : path.length = 0
      · rw [cr_one hn hp] at hx; exact absurd hx (by simp)
      · rw [cr_none (ch_one' hn hp)] at hx; exact absurd hx (by simp)
    · by_cases hp : path.length = 0
      · rw [cr_none (ch_nil hn hp)] at hx; exact absurd hx (by simp)
      · match m with
        | 0 => omega
        | m + 1 =>
          have hlast : (lastP path).length = 32 := getD_len hp32 (by omega)
          have hrest : H32 (restP path) := fun q hq => hp32 q (List.mem_of_mem_take hq)
          by_cases hi : i < half n
          · cases hc : climbH (half n) i h (restP path) with
            | none => rw [cr_none (by rw [ch_l hn hp hi, hc]; rfl)] at hx; exact absurd hx (by simp)
            | some y =>
              rw [cr_l hn hp hi hc] at hx
              rcases List.mem_append.1 hx with hx | hx
              · exact climbR_small m _ _ _ _ (by rw [List.length_take]; omega) hh hrest x hx
              · rw [List.mem_singleton.1 hx]
                have := climb_len _ _ _ _ _ y (Nat.le_refl _) hh hc
                unfold innerB; rw [List.length_cons, List.length_append]; omega
          · cases hc : climbH (n - half n) (i - half n) h (restP path) with
            | none => rw [cr_none (by rw [ch_r hn hp hi, hc]; rfl)] at hx; exact absurd hx (by simp)
            | some y =>
              rw [cr_r hn hp hi hc] at hx
              rcases List.mem_append.1 hx with hx | hx
              · exact climbR_small m _ _ _ _ (by rw [List.length_take]; omega) hh hrest x hx
              · rw [List.mem_singleton.1 hx]
                have := climb_len _ _ _ _ _ y (Nat.le_refl _) hh hc
                unfold innerB; rw [List.length_cons, List.length_append]; omega
theorem leafR_small {n : Int} {f : Lf} {X : List Nat} {w : World} (h : LR X w f) : ∀ x ∈ leafR n f.e, x.length ≤ 70368744177664 := by
  intro x hx
  unfold leafR at hx
  have hlb := leafB_le h.cell.2
  split at hx
  · split at hx
    · rw [List.mem_singleton.1 hx]; exact Nat.le_trans hlb (by omega)
    · rename_i t ht
      have htl := climb_len _ _ _ _ _ t (Nat.le_refl _) (leafH_len _) ht
      simp only [List.mem_append, List.mem_singleton] at hx
      rcases hx with (rfl | hx) | rfl
      · exact Nat.le_trans hlb (by omega)
      · have := climbR_small _ _ _ _ _ (Nat.le_refl _) (leafH_len _) h.h32 x hx; omega
      · unfold topB; rw [List.length_cons, List.length_append, l8_len, htl]; omega
  · exact absurd hx (by simp)
theorem rowsW_small {n : Int} {ls : List Lf} {X : List Nat} {w : World} {v : Value} (h : LsR X w v ls) : ∀ x ∈ rowsW n (PE ls), x.length ≤ 70368744177664 := by
  intro x hx
  unfold rowsW at hx
  split at hx
  · rw [List.mem_singleton.1 hx]; unfold topB; simp
  · obtain ⟨f, hf, hx⟩ := List.mem_flatMap.1 hx
    obtain ⟨g, hg, rfl⟩ := List.mem_map.1 hf
    exact leafR_small (h.each g hg) x hx
theorem ck_len {root : List UInt8} {kind : Int} {key : List UInt8} {n : Int} {ls : List Lf} (h : (checkA root kind key n (PE ls)).1 = 0) : ls.length ≤ 2 := by
  unfold checkA at h
  rw [List.length_map] at h
  split at h
  · simp at h
  · split at h
    · rename_i h1; omega
    · split at h
      · rename_i h1; omega
      · simp at h
theorem ck_none {root : List UInt8} {kind : Int} {key : List UInt8} {n : Int} {ls : List Le} (h : (checkA root kind key n ls).1 ≠ 0) : (checkA root kind key n ls).2 = none := by
  unfold checkA at h ⊢
  split
  · rfl
  · rename_i a1
    rw [if_neg a1] at h
    split
    · split <;> rfl
    · rename_i a2
      rw [if_neg a2] at h
      split
      · rename_i a3
        rw [if_pos a3] at h
        split
        · rename_i a4
          rw [if_pos a4] at h
          exact absurd rfl h
        · split <;> rfl
      · rfl
theorem rowsW_len {n : Int} {ls : List Lf} (h2 : ls.length ≤ 2) (h : ∀ f ∈ ls, f.path.length ≤ 1099511627776) : (rowsW n (PE ls)).length ≤ 2199023255556 := by
  unfold rowsW
  split
  · simp
  · have := leafs_len (n := n) (ls := ls) ls.length h
    rw [List.take_of_length_le (by rw [List.length_map]; exact Nat.le_refl _)] at this
    omega

attribute [local irreducible] leafH innerH topH rootH rootA sha checkA

set_option maxRecDepth 20000 in
theorem clash_c (v0 : Value) (cs : List Cl) (root : List UInt8) (kind : Int) (key : List UInt8) (n : Int) (lv : Value) (ls : List Lf) (w : World) (hC : CsR [] w v0 cs) (hcs : cs.length ≤ 1073741824) (hr : root.length = 32) (hn2 : -9223372036854775808 ≤ n) (hn : n ≤ 9223372036854775807) (hL : LsR [] w lv ls) (hc0 : (checkA root kind key n (PE ls)).1 = 0) :
    Calls Try.prog 40 (([v0, .agg (root.map B8).toArray, I (kind), .string (bst key), .agg ([I n, lv]).toArray] : List Value).toArray) w (fun e w' => ∃ v, e = .returned v ∧ ∃ b : Bool, v = .bool b ∧ (b = true ↔ twiceP (rowsR (PL cs) ++ rowsW n (PE ls))) ∧ Below w.heap.size w w') := by
 have hle := hC.le
 have hT1 := rowsRC_le cs
 have hT2 : ([] ++ rowsR (PL cs)).length = (rowsR (PL cs)).length := rfl
 have hT3 : ([] ++ rowsR (PL cs)).length = (rowsR (cs.map (·.c))).length := rfl
 have hTW := rowsW_len (n := n) (ck_len hc0) (fun f hf => (hL.each f hf).le)
 have hrl : ∀ l ∈ rowsR (PL cs) ++ rowsW n (PE ls), l.length ≤ 70368744177664 := fun x hx => (List.mem_append.1 hx).elim (rowsR_small (csr_small hC) x) (rowsW_small hL x)
 refine calls_mk Try.func40 rfl 38 Try.ntmps40 rfl ?_
 have H0 : St w [] [] w := St.refl w
 refine c_seq ?_
 refine c_reg ?_
 refine st (ow_box (l := (root).map B8) H0 rfl rfl) ?_
 rintro _ w2 ⟨g1, rfl, H3⟩
 refine st (ow_box (l := [I (n), lv]) H3 rfl rfl) ?_
 rintro _ w5 ⟨g4, rfl, H6⟩
 refine sy (v := .bool (false)) (y_assign (v := .bool (false)) rfl) ?_
 refine c_nil ?_
 refine n_then ?_
 refine c_seq ?_
 refine c_reg ?_
 refine sy (v := .agg ([.slice none 0 0]).toArray) (y_build (parts := []) (pv := []) (us := [.slice none 0 0]) trivial (by kernel_rfl)) ?_
 refine st (ow_box (l := [.slice none 0 0]) H6 rfl rfl) ?_
 rintro _ w8 ⟨g7, rfl, H9⟩
 refine sy (v := Ad (bs g7) (0)) (y_assign rfl) ?_
 refine c_nil ?_
 refine n_then ?_
 refine c_seq ?_
 refine c_reg ?_
 refine sy (v := Ad (bs g7) (0)) (y_move rfl) ?_
 refine sy (v := v0) (y_move rfl) ?_
 refine st (ow_call fn96 rfl (broot_c g7 ([] : List (List UInt8)) [(g7, Rw 120 [.slice none 0 0])] v0 cs _ (bk_new g7) (fun p hp => H9.own _ List.mem_cons_self p hp) (hC.awayX H9) (by first | omega | (simp only [List.length_append, List.length_cons, List.length_nil, List.length_take, List.length_drop]; omega))) ⟨rfl, rfl, trivial⟩) ?_
 rintro _ w11 ⟨rfl, E10, hK13, H12⟩
 have H14 : St w _ [_, _, _] w11 := H9.appE H12
 refine c_nil ?_
 refine n_then ?_
 refine c_seq ?_
 refine c_reg ?_
 refine sy (v := .agg (root.map B8).toArray) (y_loadA (us := (root).map B8) ag26 sz26 ((List.length_map _).trans hr) rfl (fun j u hu => (H14.cell 2 rfl (by rw [Nat.zero_add]; exact hu)))) ?_
 refine sy (v := I (kind)) (y_move rfl) ?_
 refine sy (v := .string (bst key)) (y_move rfl) ?_
 refine sy (v := .agg ([I n, lv]).toArray) (y_loadA (us := [I (n), lv]) ag41 sz41 rfl rfl (fun j u hu => (H14.cell 1 rfl (by rw [Nat.zero_add]; exact hu)))) ?_
 refine st (ow_call fn97 rfl (walk_c root kind key n lv ls _ hr (by omega) (by omega) (hL.st H14).nil) ⟨rfl, rfl, rfl, rfl, trivial⟩) ?_
 rintro _ w20 ⟨c15, g16, rv17, rows18, EB19, rfl, hc22, hC23', hO24, hW25, H21⟩
 have H26 : St w _ [_, _, _, _] w20 := H14.app H21
 have hC23 : CR [] w c15 := hC23'.cr hL
 obtain rfl := hW25 hc0
 refine sy (v := .tuple #[.agg ([I c15.c.k, .string (bst c15.c.key), c15.v]).toArray, .bool ((checkA root kind key n (PE ls)).2.isSome), I (((checkA root kind key n (PE ls)).1 : Nat) : Int), rv17]) (y_move rfl) ?_
 refine sy (v := .agg ([I c15.c.k, .string (bst c15.c.key), c15.v]).toArray) (y_extract (i := 0) rfl rfl) ?_
 refine sy (v := .bool ((checkA root kind key n (PE ls)).2.isSome)) (y_extract (i := 1) rfl rfl) ?_
 refine sy (v := I (((checkA root kind key n (PE ls)).1 : Nat) : Int)) (y_extract (i := 2) rfl rfl) ?_
 refine sy (v := rv17) (y_extract (i := 3) rfl rfl) ?_
 refine st (ow_alloc (l := [I ((0 : Nat) : Int), .string (.empty), .slice none 0 0]) H26 zr48 rfl) ?_
 rintro _ w28 ⟨g27, rfl, H29⟩
 refine s0 (ow_storeW (us := [I (c15.c.k), .string (bst c15.c.key), c15.v]) H29 sz48 rfl rfl rfl (by intro u hu; simp only [List.mem_cons, List.not_mem_nil, or_false] at hu; rcases hu with rfl | rfl | rfl <;> first | rfl | exact Rd.one (hC23.1.st H29)) (by simp [*])) ?_
 rintro _ w30 H31'
 have H31 : St w _ [[(g27, Rw 48 ([I (c15.c.k), .string (bst c15.c.key), c15.v]))], _, _, _, _] w30 := H31'
 refine sy (v := .bool ((checkA root kind key n (PE ls)).2.isSome)) (y_assign rfl) ?_
 refine sy (v := I (((checkA root kind key n (PE ls)).1 : Nat) : Int)) (y_assign rfl) ?_
 refine sy (v := rv17) (y_assign rfl) ?_
 refine c_nil ?_
 refine n_then ?_
 refine c_seq ?_
 refine c_reg ?_
 refine sy (v := Ad (bs g7) (0)) (y_move rfl) ?_
 refine sy (v := Ad (bs g7) (0)) (y_nilCheck rfl) ?_
 refine sy (v := Ad (bs g7) (0 + 0)) (y_fld Try.underlying120 rfl rfl sz36 (by decide) rfl) ?_
 obtain ⟨rv32, hO33⟩ := BkP.op hK13
 refine sy (v := rv32) (y_load sc36 rfl (cell_rw (hO33.cell H31 2 rfl) 0)) ?_
 refine sy (v := rv17) (y_move rfl) ?_
 have H34 : St w _ [_, _, _, _, _] w30 := H31.foc 2 rfl rfl
 obtain ⟨vs1, E1, F1, rfl, ho1, hr1, hd1, hd2⟩ := hO33
 obtain ⟨vs2, E2, F2, rfl, ho2, hr2, -, -⟩ := hO24
 have H35 := (H34.split hd2).foc 1 rfl rfl
 have H36 : St w _ [E1, [(g7, Rw 120 [rv32])], F1, _, _, _, _] w30 := (H35.split hd1).foc 0 rfl rfl
 change OS 23 1 rv32 (rowsR (PL cs)).length vs1 E1 at ho1
 change RowsP vs1 (rowsR (PL cs)) F1 at hr1
 have hT1' : (rowsR (PL cs)).length ≤ 2 * cs.length + 1 := hT1
 refine st (ow_append Try.underlying36 sz23 zr23 bt23 rfl ho1 H36 rfl rfl ((ho2.rd (H36.foc 4 rfl rfl).subL.subR 0 rfl).src Try.underlying36 (Rds.one (hr2.rds (H36.foc 4 rfl rfl).subR))) (by omega) (by omega)) ?_
 rintro v37 w38 ⟨E41, ho40, H39⟩
 refine st (ow_call fn98 rfl (twice_c (v37) (vs1 ++ vs2) (rowsR (PL cs) ++ rowsW n (PE ls)) _ (by rw [List.length_append]; exact ho40.rd H39 0 rfl) (Rds.app (hr1.rds (H39.foc 2 rfl rfl)) (hr2.rds (H39.foc 4 rfl rfl).subR)) (by rw [List.length_append, List.length_append, hr1.len, hr2.len]) (by rw [List.length_append]; omega) hrl) ⟨rfl, trivial⟩) ?_
 rintro _ w43 ⟨b42, rfl, hx45, hB44⟩
 have H46 : St w _ [_, _, _, _, _, _, _] w43 := H39.call hB44
 refine sy (v := .bool (b42)) (y_assign rfl) ?_
 refine c_nil ?_
 refine n_then ?_
 refine wp_ret ?_
 refine e_r1 Try.results40 (rv_t rfl) ?_
 exact ⟨_, rfl, _, rfl, hx45, H46.below⟩

end Go.Proofs.Ytdcmbcjkdhdohaa
