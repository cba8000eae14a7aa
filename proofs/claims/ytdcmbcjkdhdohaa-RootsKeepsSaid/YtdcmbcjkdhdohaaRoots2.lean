/- Walks: the writer of bytes, hashes of leaves and nodes (pack.Out, roots.hash, leaf, inner, top, half). -/
import Derived.Test.YtdcmbcjkdhdohaaRoots1
namespace Go.Proofs.Ytdcmbcjkdhdohaa
open Go Go.RowKit
set_option linter.unusedSimpArgs false
set_option linter.unusedVariables false
attribute [local irreducible] wpList wpP Code.wp

theorem rd8_nil {w : World} : Rd [] w 1 (.slice none 0 0) ([] : List UInt8).length (([] : List UInt8).map B8) := ⟨rfl, ⟨_, _, rfl, Nat.le_refl _, by simp [maxLen]⟩, by simp, by simp⟩
theorem shr7_lt {y : UInt64} (h : 128 ≤ y) : (y >>> UInt64.ofNat 7).toNat < y.toNat := by
  have h1 : 128 ≤ y.toNat := UInt64.le_iff_toNat_le.1 h
  have e : (y >>> UInt64.ofNat 7).toNat = y.toNat / 128 := by
    rw [UInt64.toNat_shiftRight, UInt64.toNat_ofNat', Nat.shiftRight_eq_div_pow]
  omega
theorem numS_le {n b : Nat} (h : n ≤ b) (hb : b ≤ 281474976710656 := by omega) : (numN n).length ≤ 10 := numN_le 9 _ (by omega)
theorem Rds.st {w w0 : World} {L : List Part} : ∀ {vs : List Value} {ls : List (List UInt8)}, Rds w0 vs ls → St w0 [] L w → Rds w vs ls
  | [], [], _, _ => trivial
  | _ :: _, _ :: _, h, H => ⟨h.1.st H, Rds.st h.2 H⟩
  | [], _ :: _, h, _ => h.elim
  | _ :: _, [], h, _ => h.elim
theorem Rds.one {w : World} : ∀ {vs : List Value} {ls : List (List UInt8)}, Rds w vs ls → ∀ u ∈ vs, u.oneCell' = true
  | [], [], _, u, hu => absurd hu (by simp)
  | v :: vs, l :: ls, h, u, hu => by
    rcases List.mem_cons.1 hu with rfl | hu
    · exact Rd.one h.1
    · exact Rds.one h.2 u hu
theorem l8_take {n k : Nat} (h : k < 8) : (l8 n).take k ++ [b8 ((n / 2 ^ (8 * k) : Nat) : Int)] = (l8 n).take (k + 1) := by
  have hk : k < (l8 n).length := by rw [l8_len]; exact h
  rw [List.take_add_one, List.getElem?_eq_getElem hk]
  simp [l8]
theorem half_step {n m f b : Nat} (hb : halfF f m n = b) (hz : m * 2 ^ f = 18446744073709551616) (h : m < n - m) (hn : n ≤ 9223372036854775807) : ∃ f', f = f' + 1 ∧ halfF f' (m * 2) n = b ∧ m * 2 * 2 ^ f' = 18446744073709551616 ∧ m * 2 < n := by
  cases f with
  | zero => simp at hz; omega
  | succ f' =>
    refine ⟨f', rfl, ?_, ?_, by omega⟩
    · rw [← hb]; simp only [halfF]; rw [if_pos (by omega), Nat.mul_comm]
    · rw [← hz, Nat.pow_succ, Nat.mul_assoc, Nat.mul_comm 2]
theorem half_end {n m f : Nat} (h : ¬ m < n - m) (hm : m < n) : halfF f m n = m := by
  cases f with
  | zero => rfl
  | succ f => simp only [halfF]; rw [if_neg (by omega)]
section
variable {P : Program} {n : Nat} {f : Nat → Value} {ty : TypeId} {w : World}
theorem y_makeFunc {k : _root_.Go.Fn} {xs : List Operand} {cs : List Value} (he : Evs n f xs cs) : Y P n f (.makeFunc k #[] xs.toArray) ty w (.func k #[] cs.toArray) w := by
  intro o ho _
  simp [execOp, ho, Instr.makeFunc, ← evs_map he]
end

theorem newOut_c (w : World) :
    Calls Try.prog 141 (([] : List Value).toArray) w (fun e w' => ∃ v, e = .returned v ∧ ∃ g EO, v = Ad (bs g) 0 ∧ OutP g [] EO ∧ St w [] [EO] w') := by
 refine calls_mk Try.func141 rfl 3 Try.ntmps141 rfl ?_
 have H0 : St w [] [] w := St.refl w
 refine c_seq ?_
 refine c_reg ?_
 refine sy (v := .pointer none) (y_assign (v := .pointer none) rfl) ?_
 refine c_nil ?_
 refine n_then ?_
 refine c_seq ?_
 refine c_reg ?_
 refine sy (v := .agg ([.slice none 0 0]).toArray) (y_build (parts := []) (pv := []) (us := [.slice none 0 0]) trivial (by kernel_rfl)) ?_
 refine st (ow_box (l := [.slice none 0 0]) H0 rfl rfl) ?_
 rintro _ w2 ⟨g1, rfl, H3⟩
 refine sy (v := Ad (bs g1) (0)) (y_assign rfl) ?_
 refine c_nil ?_
 refine n_then ?_
 refine wp_ret ?_
 refine e_r1 Try.results141 (rv_t rfl) ?_
 exact ⟨_, rfl, g1, [(g1, Rw 170 [.slice none 0 0])], rfl, ⟨_, [], rfl, OS.nil 5 1, by simp⟩, H3⟩

theorem number_c (g : Nat) (l : List UInt8) (EO : Part) (x : UInt64) (w : World) (hO : OutP g l EO) (hown : ∀ p ∈ EO, w.heap[p.1]? = some p.2)  (hl : l.length ≤ 190000000000000) :
    Calls Try.prog 142 (([Ad (bs g) (0), U64 (x)] : List Value).toArray) w (fun e w' => ∃ v, e = .returned v ∧ v = .tuple #[] ∧ ∃ EO', OutP g (l ++ numN x.toNat) EO' ∧ St w (EO.map (·.1)) [EO'] w') := by
 obtain ⟨bv, E, rfl, ho, hdj⟩ := hO
 refine calls_mk Try.func142 rfl 31 Try.ntmps142 rfl ?_
 have H0 : St w (([(g, Rw 170 [bv])] ++ E).map (·.1)) [E, [(g, Rw 170 ([bv]))]] w := (St.initE hown).split hdj
 refine c_seq ?_
 refine wp_block ?_
 refine c_loop (fun (y : UInt64) f1 w2 => ∃ (r : List UInt8), ∃ (tv : Value), ∃ (ET : Part), f1 0 = Ad (bs g) (0) ∧ f1 1 = U64 (y) ∧ r ++ numN y.toNat = l ++ numN x.toNat ∧ OS 5 1 tv r.length (r.map B8) ET ∧ St w (([(g, Rw 170 [bv])] ++ E).map (·.1)) [ET, [(g, Rw 170 ([tv]))]] w2) (fun y => y.toNat) x ⟨l, bv, E, rfl, rfl, rfl, ho, H0⟩ ?_
 rintro y f1 w2 ⟨r, tv, ET, s0_3, s1_3, hr, hoT, H3⟩
 have hrl : r.length + (numN y.toNat).length = l.length + (numN x.toNat).length := by have := congrArg List.length hr; simpa using this
 have hx10 := num_le x
 refine c_seq ?_
 refine c_seq ?_
 refine c_reg ?_
 refine sy (v := U64 (y)) (y_move s1_3) ?_
 refine sy (v := .bool (decide (128 ≤ y))) (y_geq64 (a := y) (b := 128) rfl rfl) ?_
 refine c_nil ?_
 refine n_then ?_
 refine c_if rfl (fun hc4 => ?_) (fun hc4 => ?_)
 ·
  refine wp_skip ?_
  refine n_then ?_
  refine wp_block ?_
  refine c_seq ?_
  refine c_reg ?_
  refine sy (v := Ad (bs g) (0)) (y_move s0_3) ?_
  refine sy (v := Ad (bs g) (0)) (y_move s0_3) ?_
  refine sy (v := Ad (bs g) (0)) (y_nilCheck rfl) ?_
  refine sy (v := Ad (bs g) (0 + 0)) (y_fld Try.underlying170 rfl rfl sz23 (by decide) rfl) ?_
  refine sy (v := tv) (y_load sc23 rfl (H3.cell 1 rfl rfl)) ?_
  refine sy (v := U64 (y)) (y_move s1_3) ?_
  refine sy (v := B8 (y.toUInt8)) (y_conv_64_8 Try.underlying59 Try.underlying5 rfl) ?_
  refine sy (v := B8 (y.toUInt8 ||| 128)) (y_or8 (a := y.toUInt8) (b := 128) rfl rfl) ?_
  refine st (ow_buildSlice (pv := [(0, B8 (y.toUInt8 ||| 128))]) (us := [B8 (y.toUInt8 ||| 128)]) Try.underlying23 sz5 zr5 H3 ⟨⟨rfl, rfl⟩, trivial⟩ (by decide) (fill1 rfl)) ?_
  rintro _ w6 ⟨g5, rfl, H7⟩
  have H8 : St w _ [_, _, _] w6 := H7.foc 1 rfl rfl
  refine st (ow_appendW Try.underlying23 sz5 zr5 bt5 rfl hoT H8 rfl rfl ((rd_lit (k := 1) (us := [B8 (y.toUInt8 ||| 128)]) H7 0 rfl rfl (by simp [maxLen])).src Try.underlying23 (by simp [Value.oneCell'])) (by first | omega | (simp only [List.length_append, List.length_cons, List.length_nil, List.length_take, List.length_drop, hmac_length, sha_length, List.length_replicate]; omega)) (by first | omega | (simp only [List.length_append, List.length_cons, List.length_nil, List.length_take, List.length_drop, hmac_length, sha_length, List.length_replicate]; omega))) ?_
  rintro v10 w11 ⟨E9, ho13', H12⟩
  have ho13 : OS 5 1 v10 (r ++ ([y.toUInt8 ||| 128])).length ((r ++ ([y.toUInt8 ||| 128])).map B8) E9 := by rw [List.length_append, List.map_append]; exact ho13'
  refine sy (v := Ad (bs g) (0)) (y_nilCheck rfl) ?_
  refine sy (v := Ad (bs g) (0 + 0)) (y_fld Try.underlying170 rfl rfl sz23 (by decide) rfl) ?_
  have H14 : St w _ [_, _, _] w11 := H12.foc 2 rfl rfl
  refine s0 (ow_store (j := 0) H14 sz23 rfl rfl (Rd.one (ho13.rd H14 1 rfl)) rfl (by simp)) ?_
  rintro _ w15 H16'
  have H16 : St w _ [[(g, Rw 170 ([v10]))], _, _] w15 := H16'
  refine c_nil ?_
  refine n_then ?_
  refine c_reg ?_
  refine sy (v := U64 (y)) (y_move s1_3) ?_
  refine sy (v := U64 (y >>> UInt64.ofNat 7)) (n_shr64 (m := 7) (c := y) rfl rfl (by omega)) ?_
  refine sy (v := U64 (y >>> UInt64.ofNat 7)) (y_assign rfl) ?_
  refine c_nil ?_
  refine n_block ?_
  have H17 : St w _ [_, _, _] w15 := H16.foc 1 rfl rfl
  have H18 : St w _ [_, _] w15 := H17.take 2 rfl
  exact lp_next (y >>> UInt64.ofNat 7) ⟨_, _, _, s0_3, rfl, (num_step hr (by assumption)), ho13, H18⟩ (by show _ < _; exact shr7_lt (by assumption))
 ·
  refine wp_exit ?_
  refine x_then (x_then (x_hit (n_then ?_)))
  refine c_reg ?_
  refine sy (v := Ad (bs g) (0)) (y_move s0_3) ?_
  refine sy (v := Ad (bs g) (0)) (y_move s0_3) ?_
  refine sy (v := Ad (bs g) (0)) (y_nilCheck rfl) ?_
  refine sy (v := Ad (bs g) (0 + 0)) (y_fld Try.underlying170 rfl rfl sz23 (by decide) rfl) ?_
  refine sy (v := tv) (y_load sc23 rfl (H3.cell 1 rfl rfl)) ?_
  refine sy (v := U64 (y)) (y_move s1_3) ?_
  refine sy (v := B8 (y.toUInt8)) (y_conv_64_8 Try.underlying59 Try.underlying5 rfl) ?_
  refine st (ow_buildSlice (pv := [(0, B8 (y.toUInt8))]) (us := [B8 (y.toUInt8)]) Try.underlying23 sz5 zr5 H3 ⟨⟨rfl, rfl⟩, trivial⟩ (by decide) (fill1 rfl)) ?_
  rintro _ w20 ⟨g19, rfl, H21⟩
  have H22 : St w _ [_, _, _] w20 := H21.foc 1 rfl rfl
  refine st (ow_appendW Try.underlying23 sz5 zr5 bt5 rfl hoT H22 rfl rfl ((rd_lit (k := 1) (us := [B8 (y.toUInt8)]) H21 0 rfl rfl (by simp [maxLen])).src Try.underlying23 (by simp [Value.oneCell'])) (by first | omega | (simp only [List.length_append, List.length_cons, List.length_nil, List.length_take, List.length_drop, hmac_length, sha_length, List.length_replicate]; omega)) (by first | omega | (simp only [List.length_append, List.length_cons, List.length_nil, List.length_take, List.length_drop, hmac_length, sha_length, List.length_replicate]; omega))) ?_
  rintro v24 w25 ⟨E23, ho27', H26⟩
  have ho27 : OS 5 1 v24 (r ++ ([y.toUInt8])).length ((r ++ ([y.toUInt8])).map B8) E23 := by rw [List.length_append, List.map_append]; exact ho27'
  refine sy (v := Ad (bs g) (0)) (y_nilCheck rfl) ?_
  refine sy (v := Ad (bs g) (0 + 0)) (y_fld Try.underlying170 rfl rfl sz23 (by decide) rfl) ?_
  have H28 : St w _ [_, _, _] w25 := H26.foc 2 rfl rfl
  refine s0 (ow_store (j := 0) H28 sz23 rfl rfl (Rd.one (ho27.rd H28 1 rfl)) rfl (by simp)) ?_
  rintro _ w29 H30'
  have H30 : St w _ [[(g, Rw 170 ([v24]))], _, _] w29 := H30'
  refine c_nil ?_
  refine e_end0 Try.results142 ?_
  have H31 : St w _ [_, _, _] w29 := H30.foc 2 rfl rfl
  have H32 : St w _ [_, _, _] w29 := H31.foc 1 rfl rfl
  have H33 : St w _ [_, _, _] w29 := H32.foc 2 rfl rfl
  obtain ⟨H34, hd35⟩ := H33.join
  exact ⟨_, rfl, rfl, _, ⟨_, _, rfl, (num_last hr (by assumption) ▸ ho27), hd35⟩, H34.take 1 rfl⟩

theorem layS_c (g : Nat) (l : List UInt8) (EO : Part) (key : List UInt8) (w : World) (hO : OutP g l EO) (hown : ∀ p ∈ EO, w.heap[p.1]? = some p.2) (hk : key.length ≤ 140737488351232) (hl : l.length ≤ 35184372088832) :
    Calls Try.prog 156 (([Ad (bs g) (0), .string (bst key)] : List Value).toArray) w (fun e w' => ∃ v, e = .returned v ∧ v = .tuple #[] ∧ ∃ EO', OutP g (l ++ (numN key.length ++ key)) EO' ∧ St w (EO.map (·.1)) [EO'] w') := by
 have hn10 := numS_le hk
 have hun := u64_nat (n := key.length) (by omega)
 refine calls_mk Try.func156 rfl 18 Try.ntmps156 rfl ?_
 have H0 : St w (EO.map (·.1)) [EO] w := St.initE hown
 refine c_seq ?_
 refine c_reg ?_
 refine sy (v := Ad (bs g) (0)) (y_move rfl) ?_
 refine sy (v := .string (bst key)) (y_move rfl) ?_
 refine sy (v := I ((key.length : Nat) : Int)) (y_lenS Try.underlying9 rfl) ?_
 refine sy (v := U64 (u64 ((key.length : Nat)))) (y_conv_I_64 Try.underlying3 Try.underlying59 rfl) ?_
 refine st (ow_call fn142 rfl (number_c g l EO (u64 ((key.length : Nat))) _ hO (fun p hp => H0.own _ List.mem_cons_self p hp)  (by first | omega | (simp only [List.length_append, List.length_cons, List.length_nil, List.length_take, List.length_drop, hmac_length, sha_length, List.length_replicate]; omega))) ⟨rfl, rfl, trivial⟩) ?_
 rintro _ w2 ⟨rfl, E1, hO4, H3⟩
 have H5 : St w _ [_] w2 := H0.appE H3
 rw [hun] at hO4
 have H6 : St w _ [_] w2 := H5
 have hq10 : (l ++ numN key.length).length ≤ l.length + 10 := by rw [List.length_append]; omega
 refine c_nil ?_
 refine n_then ?_
 obtain ⟨bv7, E8, rfl, ho9, hd10⟩ := hO4
 have H11 : St w _ [_, _] w2 := H6.split hd10
 refine c_reg ?_
 refine sy (v := Ad (bs g) (0)) (y_move rfl) ?_
 refine sy (v := Ad (bs g) (0)) (y_move rfl) ?_
 refine sy (v := Ad (bs g) (0)) (y_nilCheck rfl) ?_
 refine sy (v := Ad (bs g) (0 + 0)) (y_fld Try.underlying170 rfl rfl sz23 (by decide) rfl) ?_
 refine sy (v := bv7) (y_load sc23 rfl (H11.cell 1 rfl rfl)) ?_
 refine sy (v := .string (bst key)) (y_move rfl) ?_
 refine st (ow_appendW Try.underlying23 sz5 zr5 bt5 rfl ho9 H11 rfl rfl (show Src Try.prog 1 9 (.string (bst key)) key.length (key.map B8) w2 from src_str Try.underlying9 key) (by first | omega | (simp only [List.length_append, List.length_cons, List.length_nil, List.length_take, List.length_drop, hmac_length, sha_length, List.length_replicate]; omega)) (by first | omega | (simp only [List.length_append, List.length_cons, List.length_nil, List.length_take, List.length_drop, hmac_length, sha_length, List.length_replicate]; omega))) ?_
 rintro v13 w14 ⟨E12, ho16', H15⟩
 have ho16 : OS 5 1 v13 ((l ++ numN key.length) ++ key).length (((l ++ numN key.length) ++ key).map B8) E12 := by rw [List.length_append, List.map_append]; exact ho16'
 refine sy (v := Ad (bs g) (0)) (y_nilCheck rfl) ?_
 refine sy (v := Ad (bs g) (0 + 0)) (y_fld Try.underlying170 rfl rfl sz23 (by decide) rfl) ?_
 have H17 : St w _ [_, _] w14 := H15.foc 1 rfl rfl
 refine s0 (ow_store (j := 0) H17 sz23 rfl rfl (Rd.one (ho16.rd H17 1 rfl)) rfl (by simp)) ?_
 rintro _ w18 H19'
 have H19 : St w _ [[(g, Rw 170 ([v13]))], _] w18 := H19'
 refine c_nil ?_
 refine e_end0 Try.results156 ?_
 have H20 : St w _ [_, _] w18 := H19.foc 1 rfl rfl
 obtain ⟨H21, hd22⟩ := H20.join
 exact ⟨_, rfl, rfl, _, ⟨_, _, rfl, (by rw [← List.append_assoc]; exact ho16), hd22⟩, H21.take 1 rfl⟩

theorem layB_c (g : Nat) (l : List UInt8) (EO : Part) (v1 : Value) (m : List UInt8) (w : World) (hO : OutP g l EO) (hown : ∀ p ∈ EO, w.heap[p.1]? = some p.2) (hR : Rd (EO.map (·.1)) w 1 v1 m.length (m.map B8)) (hk : m.length ≤ 1099511627776) (hl : l.length ≤ 180000000000000) :
    Calls Try.prog 157 (([Ad (bs g) (0), v1] : List Value).toArray) w (fun e w' => ∃ v, e = .returned v ∧ v = .tuple #[] ∧ ∃ EO', OutP g (l ++ (numN m.length ++ m)) EO' ∧ St w (EO.map (·.1)) [EO'] w') := by
 have hn10 := numS_le hk
 have hun := u64_nat (n := m.length) (by omega)
 refine calls_mk Try.func157 rfl 18 Try.ntmps157 rfl ?_
 have H0 : St w (EO.map (·.1)) [EO] w := St.initE hown
 refine c_seq ?_
 refine c_reg ?_
 refine sy (v := Ad (bs g) (0)) (y_move rfl) ?_
 refine sy (v := v1) (y_move rfl) ?_
 refine sy (v := I ((m.length : Nat) : Int)) (y_lenR Try.underlying23 (hR.st H0) rfl) ?_
 refine sy (v := U64 (u64 ((m.length : Nat)))) (y_conv_I_64 Try.underlying3 Try.underlying59 rfl) ?_
 refine st (ow_call fn142 rfl (number_c g l EO (u64 ((m.length : Nat))) _ hO (fun p hp => H0.own _ List.mem_cons_self p hp)  (by first | omega | (simp only [List.length_append, List.length_cons, List.length_nil, List.length_take, List.length_drop, hmac_length, sha_length, List.length_replicate]; omega))) ⟨rfl, rfl, trivial⟩) ?_
 rintro _ w2 ⟨rfl, E1, hO4, H3⟩
 have H5 : St w _ [_] w2 := H0.appE H3
 rw [hun] at hO4
 have H6 : St w _ [_] w2 := H5
 have hq10 : (l ++ numN m.length).length ≤ l.length + 10 := by rw [List.length_append]; omega
 refine c_nil ?_
 refine n_then ?_
 obtain ⟨bv7, E8, rfl, ho9, hd10⟩ := hO4
 have H11 : St w _ [_, _] w2 := H6.split hd10
 refine c_reg ?_
 refine sy (v := Ad (bs g) (0)) (y_move rfl) ?_
 refine sy (v := Ad (bs g) (0)) (y_move rfl) ?_
 refine sy (v := Ad (bs g) (0)) (y_nilCheck rfl) ?_
 refine sy (v := Ad (bs g) (0 + 0)) (y_fld Try.underlying170 rfl rfl sz23 (by decide) rfl) ?_
 refine sy (v := bv7) (y_load sc23 rfl (H11.cell 1 rfl rfl)) ?_
 refine sy (v := v1) (y_move rfl) ?_
 refine st (ow_appendW Try.underlying23 sz5 zr5 bt5 rfl ho9 H11 rfl rfl ((hR.st H11).src Try.underlying23 (map_one (F := B8) (fun _ => rfl) _)) (by first | omega | (simp only [List.length_append, List.length_cons, List.length_nil, List.length_take, List.length_drop, hmac_length, sha_length, List.length_replicate]; omega)) (by first | omega | (simp only [List.length_append, List.length_cons, List.length_nil, List.length_take, List.length_drop, hmac_length, sha_length, List.length_replicate]; omega))) ?_
 rintro v13 w14 ⟨E12, ho16', H15⟩
 have ho16 : OS 5 1 v13 ((l ++ numN m.length) ++ m).length (((l ++ numN m.length) ++ m).map B8) E12 := by rw [List.length_append, List.map_append]; exact ho16'
 refine sy (v := Ad (bs g) (0)) (y_nilCheck rfl) ?_
 refine sy (v := Ad (bs g) (0 + 0)) (y_fld Try.underlying170 rfl rfl sz23 (by decide) rfl) ?_
 have H17 : St w _ [_, _] w14 := H15.foc 1 rfl rfl
 refine s0 (ow_store (j := 0) H17 sz23 rfl rfl (Rd.one (ho16.rd H17 1 rfl)) rfl (by simp)) ?_
 rintro _ w18 H19'
 have H19 : St w _ [[(g, Rw 170 ([v13]))], _] w18 := H19'
 refine c_nil ?_
 refine e_end0 Try.results157 ?_
 have H20 : St w _ [_, _] w18 := H19.foc 1 rfl rfl
 obtain ⟨H21, hd22⟩ := H20.join
 exact ⟨_, rfl, rfl, _, ⟨_, _, rfl, (by rw [← List.append_assoc]; exact ho16), hd22⟩, H21.take 1 rfl⟩

theorem text_c (g : Nat) (l : List UInt8) (EO : Part) (key : List UInt8) (w : World) (hO : OutP g l EO) (hown : ∀ p ∈ EO, w.heap[p.1]? = some p.2) (hk : key.length ≤ 140737488351232) (hl : l.length ≤ 35184372088832) :
    Calls Try.prog 143 (([Ad (bs g) (0), .string (bst key)] : List Value).toArray) w (fun e w' => ∃ v, e = .returned v ∧ v = .tuple #[] ∧ ∃ EO', OutP g (l ++ (numN key.length ++ key)) EO' ∧ St w (EO.map (·.1)) [EO'] w') := by
 refine calls_mk Try.func143 rfl 7 Try.ntmps143 rfl ?_
 have H0 : St w (EO.map (·.1)) [EO] w := St.initE hown
 refine c_reg ?_
 refine sy (v := Ad (bs g) (0)) (y_move rfl) ?_
 refine sy (v := .string (bst key)) (y_move rfl) ?_
 refine st (ow_call fn156 rfl (layS_c g l EO key _ hO (fun p hp => H0.own _ List.mem_cons_self p hp) (by omega) (by first | omega | (simp only [List.length_append, List.length_cons, List.length_nil, List.length_take, List.length_drop, hmac_length, sha_length, List.length_replicate]; omega))) ⟨rfl, rfl, trivial⟩) ?_
 rintro _ w2 ⟨rfl, E1, hO4, H3⟩
 have H5 : St w _ [_] w2 := H0.appE H3
 refine c_nil ?_
 refine e_end0 Try.results143 ?_
 exact ⟨_, rfl, rfl, _, hO4, H5⟩

theorem bytes_c (g : Nat) (l : List UInt8) (EO : Part) (v1 : Value) (m : List UInt8) (w : World) (hO : OutP g l EO) (hown : ∀ p ∈ EO, w.heap[p.1]? = some p.2) (hR : Rd (EO.map (·.1)) w 1 v1 m.length (m.map B8)) (hk : m.length ≤ 1099511627776) (hl : l.length ≤ 180000000000000) :
    Calls Try.prog 144 (([Ad (bs g) (0), v1] : List Value).toArray) w (fun e w' => ∃ v, e = .returned v ∧ v = .tuple #[] ∧ ∃ EO', OutP g (l ++ (numN m.length ++ m)) EO' ∧ St w (EO.map (·.1)) [EO'] w') := by
 refine calls_mk Try.func144 rfl 7 Try.ntmps144 rfl ?_
 have H0 : St w (EO.map (·.1)) [EO] w := St.initE hown
 refine c_reg ?_
 refine sy (v := Ad (bs g) (0)) (y_move rfl) ?_
 refine sy (v := v1) (y_move rfl) ?_
 refine st (ow_call fn157 rfl (layB_c g l EO v1 m _ hO (fun p hp => H0.own _ List.mem_cons_self p hp) (hR.st H0) hk hl) ⟨rfl, rfl, trivial⟩) ?_
 rintro _ w2 ⟨rfl, E1, hO4, H3⟩
 have H5 : St w _ [_] w2 := H0.appE H3
 refine c_nil ?_
 refine e_end0 Try.results144 ?_
 exact ⟨_, rfl, rfl, _, hO4, H5⟩

theorem done_c (g : Nat) (l : List UInt8) (EO : Part)  (w : World) (hO : OutP g l EO) (hown : ∀ p ∈ EO, w.heap[p.1]? = some p.2)  (hl : l.length ≤ 190000000000000) :
    Calls Try.prog 145 (([Ad (bs g) (0)] : List Value).toArray) w (fun e w' => ∃ v, e = .returned v ∧ ∃ E', OS 5 1 v l.length (l.map B8) E' ∧ St w (EO.map (·.1)) [E', EO] w') := by
 obtain ⟨bv, E, rfl, ho, hdj⟩ := hO
 refine calls_mk Try.func145 rfl 8 Try.ntmps145 rfl ?_
 have H0 : St w (([(g, Rw 170 [bv])] ++ E).map (·.1)) [E, [(g, Rw 170 ([bv]))]] w := (St.initE hown).split hdj
 refine c_seq ?_
 refine c_reg ?_
 refine sy (v := .slice none 0 0) (y_assign (v := .slice none 0 0) rfl) ?_
 refine c_nil ?_
 refine n_then ?_
 refine c_seq ?_
 refine c_reg ?_
 refine sy (v := Ad (bs g) (0)) (y_move rfl) ?_
 refine sy (v := Ad (bs g) (0)) (y_nilCheck rfl) ?_
 refine sy (v := Ad (bs g) (0 + 0)) (y_fld Try.underlying170 rfl rfl sz23 (by decide) rfl) ?_
 refine sy (v := bv) (y_load sc23 rfl (H0.cell 1 rfl rfl)) ?_
 refine st (ow_appendW Try.underlying23 sz5 zr5 bt5 rfl (OS.nil 5 1) (H0.nilp) rfl rfl ((ho.rd H0 0 rfl).src Try.underlying23 (map_one (F := B8) (fun _ => rfl) _)) (by first | omega | (simp only [List.length_append, List.length_cons, List.length_nil, List.length_take, List.length_drop, hmac_length, sha_length, List.length_replicate]; omega)) (by first | omega | (simp only [List.length_append, List.length_cons, List.length_nil, List.length_take, List.length_drop, hmac_length, sha_length, List.length_replicate]; omega))) ?_
 rintro v2 w3 ⟨E1, ho5', H4⟩
 have ho5 : OS 5 1 v2 (l).length ((l).map B8) E1 := by first | (have h := ho5'; rw [Nat.zero_add, List.nil_append] at h; exact h) | simpa using ho5'
 refine sy (v := v2) (y_assign rfl) ?_
 refine c_nil ?_
 refine n_then ?_
 refine wp_ret ?_
 refine e_r1 Try.results145 (rv_t rfl) ?_
 have H6 : St w _ [_, _, _] w3 := H4.foc 2 rfl rfl
 have H7 : St w _ [_, _, _] w3 := H6.foc 2 rfl rfl
 obtain ⟨Hj8, -⟩ := H7.join
 exact ⟨_, rfl, _, ho5, Hj8.foc 1 rfl rfl⟩

theorem hash_c (x : UInt8) (rv : Value) (vs : List Value) (ls : List (List UInt8)) (w : World) (hv : Rd [] w 1 rv vs.length vs) (hr : Rds w vs ls) (hn : vs.length ≤ 2) (hlen : ls.flatten.length ≤ 1152921504606846976) :
    Calls Try.prog 121 (([B8 (x), rv] : List Value).toArray) w (fun e w' => ∃ v, e = .returned v ∧ v = .agg ((sha (x :: ls.flatten)).map B8).toArray ∧ Below w.heap.size w w') := by
 refine calls_mk Try.func121 rfl 11 Try.ntmps121 rfl ?_
 have H0 : St w [] [] w := St.refl w
 refine c_seq ?_
 refine c_reg ?_
 refine st (ow_alloc (l := (List.replicate 32 0).map B8) H0 zr26 (by simp [Value.cells])) ?_
 rintro _ w2 ⟨g1, rfl, H3⟩
 refine c_nil ?_
 refine n_then ?_
 refine c_seq ?_
 refine c_reg ?_
 refine sy (v := B8 (x)) (y_move rfl) ?_
 refine st (ow_buildSlice (pv := [(0, B8 (x))]) (us := [B8 (x)]) Try.underlying23 sz5 zr5 H3 ⟨⟨rfl, rfl⟩, trivial⟩ (by decide) (fill1 rfl)) ?_
 rintro _ w5 ⟨g4, rfl, H6⟩
 refine st (ow_buildSlice (pv := [(0, .slice (some (bs g4)) 1 1)]) (us := [.slice (some (bs g4)) 1 1]) Try.underlying36 sz23 zr23 H6 ⟨⟨rfl, rfl⟩, trivial⟩ (by decide) (fill1 rfl)) ?_
 rintro _ w8 ⟨g7, rfl, H9⟩
 refine sy (v := rv) (y_move rfl) ?_
 refine st (ow_append Try.underlying36 sz23 zr23 bt23 rfl (os_lit (k := 1) rfl (by simp [maxLen])) H9 rfl rfl ((hv.st H9).src Try.underlying36 (Rds.one hr)) (by omega) (by omega)) ?_
 rintro v11 w12 ⟨E10, ho14, H13⟩
 have hrr : Rd [] w12 1 v11 (.slice (some (bs g4)) 1 1 :: vs).length (.slice (some (bs g4)) 1 1 :: vs) := by have h := ho14.rd H13 0 rfl; rw [Nat.add_comm] at h; exact h
 have hr0 : Rd [] w12 1 (.slice (some (bs g4)) 1 1) ([x] : List UInt8).length (([x] : List UInt8).map B8) := rd_lit (k := 1) (us := [B8 x]) H13 1 rfl rfl (by simp [maxLen])
 refine st (ow_call fn75 rfl (ofAll_c (v11) (.slice (some (bs g4)) 1 1 :: vs) ([x] :: ls) _ hrr ⟨hr0, hr.st H13⟩ (by rw [List.flatten_cons, List.length_append, List.length_singleton]; omega)) ⟨rfl, trivial⟩) ?_
 rintro _ w15 ⟨rfl, hB16⟩
 have H17 : St w _ [_, _, _] w15 := H13.call hB16
 have H18 : St w _ [_, _, _] w15 := H17.foc 2 rfl rfl
 refine s0 (ow_storeW (us := (sha ([x] :: ls).flatten).map B8) H18 sz26 ((List.length_map _).trans (sha_length _)) rfl rfl (map_one (F := B8) (fun _ => rfl) _) ((List.length_map _).trans List.length_replicate)) ?_
 rintro _ w19 H20'
 have H20 : St w _ [[(g1, Rw 26 ((sha ([x] :: ls).flatten).map B8))], _, _] w19 := H20'
 refine c_nil ?_
 refine n_then ?_
 refine wp_ret ?_
 refine e_r1 Try.results121 (rv_b H20 (i := 0) rfl ag26 sz26 ((List.length_map _).trans (sha_length _)) rfl) ?_
 exact ⟨_, rfl, rfl, H20.below⟩

section
variable (x : UInt8) (rv v1 v2 : Value) (l1 l2 : List UInt8) (w : World)
theorem hash1_c (hv : Rd [] w 1 rv 1 [v1]) (h1 : Rd [] w 1 v1 l1.length (l1.map B8)) (hlen : l1.length ≤ 1152921504606846976) :
    Calls Try.prog 121 (([B8 (x), rv] : List Value).toArray) w (fun e w' => ∃ v, e = .returned v ∧ v = .agg ((sha (x :: l1)).map B8).toArray ∧ Below w.heap.size w w') := by
  have := hash_c x rv [v1] [l1] w hv ⟨h1, trivial⟩ (by show 1 ≤ 2; omega) (by simp only [List.flatten_cons, List.flatten_nil, List.append_nil]; omega)
  simpa only [List.flatten_cons, List.flatten_nil, List.append_nil] using this
theorem hash2_c (hv : Rd [] w 1 rv 2 [v1, v2]) (h1 : Rd [] w 1 v1 l1.length (l1.map B8)) (h2 : Rd [] w 1 v2 l2.length (l2.map B8)) (hlen : l1.length + l2.length ≤ 1152921504606846976) :
    Calls Try.prog 121 (([B8 (x), rv] : List Value).toArray) w (fun e w' => ∃ v, e = .returned v ∧ v = .agg ((sha (x :: (l1 ++ l2))).map B8).toArray ∧ Below w.heap.size w w') := by
  have := hash_c x rv [v1, v2] [l1, l2] w hv ⟨h1, h2, trivial⟩ (by show 2 ≤ 2; omega) (by simp only [List.flatten_cons, List.flatten_nil, List.append_nil, List.length_append]; omega)
  simpa only [List.flatten_cons, List.flatten_nil, List.append_nil] using this
end

theorem Rd.awayP {w w0 : World} {L : List Part} {E : Part} {s n : Nat} {v : Value} {cs : List Value} (h : Rd [] w0 s v n cs) (H : St w0 [] (E :: L) w) : Rd (E.map (·.1)) w s v n cs :=
  have h2 := h.st H
  ⟨h2.len, h2.shape, h2.cell, fun h0 => ⟨(fun hm => by
    obtain ⟨p, hp, e⟩ := List.mem_map.1 hm
    have h3 := h.blk h0
    have := H.new E List.mem_cons_self p hp (by omega)
    cases this), (h2.off h0).2⟩⟩

theorem leaf_c (c : Cl) (w : World) (hC : CR [] w c) :
    Calls Try.prog 123 (([.agg ([I c.c.k, .string (bst c.c.key), c.v]).toArray] : List Value).toArray) w (fun e w' => ∃ v, e = .returned v ∧ v = .agg ((leafH c.c).map B8).toArray ∧ Below w.heap.size w w') := by
 refine calls_mk Try.func123 rfl 22 Try.ntmps123 rfl ?_
 have H0 : St w [] [] w := St.refl w
 refine c_seq ?_
 refine c_reg ?_
 refine st (ow_box (l := [I (c.c.k), .string (bst c.c.key), c.v]) H0 rfl rfl) ?_
 rintro _ w2 ⟨g1, rfl, H3⟩
 refine st (ow_alloc (l := (List.replicate 32 0).map B8) H3 zr26 (by simp [Value.cells])) ?_
 rintro _ w5 ⟨g4, rfl, H6⟩
 refine c_nil ?_
 refine n_then ?_
 refine c_seq ?_
 have hk10 := num_le (u64 c.c.k)
 have hy10 := numS_le hC.2.1
 have hv10 := numS_le hC.2.2
 have hks := hC.2.1
 have hvs := hC.2.2
 refine c_reg ?_
 refine st (ow_call fn141 rfl (newOut_c _) trivial) ?_
 rintro _ w9 ⟨g7, E8, rfl, hO11, H10⟩
 have H12 : St w _ [_, _, _] w9 := H6.app H10
 refine sy (v := Ad (bs g7) (0)) (y_assign rfl) ?_
 refine c_nil ?_
 refine n_then ?_
 refine c_seq ?_
 refine c_reg ?_
 refine sy (v := Ad (bs g7) (0)) (y_move rfl) ?_
 refine sy (v := Ad (bs g1) (0 + 0)) (y_fld Try.underlying48 rfl rfl sz3 (by decide) rfl) ?_
 refine sy (v := I (c.c.k)) (y_load sc3 rfl (H12.cell 2 rfl rfl)) ?_
 refine sy (v := U64 (u64 c.c.k)) (y_conv_I_64 Try.underlying3 Try.underlying59 rfl) ?_
 refine st (ow_call fn142 rfl (number_c g7 ([] : List UInt8) E8 (u64 c.c.k) _ hO11 (fun p hp => H12.own _ List.mem_cons_self p hp)  (by first | omega | (simp only [List.length_append, List.length_cons, List.length_nil, List.length_take, List.length_drop, hmac_length, sha_length, List.length_replicate]; omega))) ⟨rfl, rfl, trivial⟩) ?_
 rintro _ w14 ⟨rfl, E13, hO16, H15⟩
 have H17 : St w _ [_, _, _] w14 := H12.appE H15
 refine c_nil ?_
 refine n_then ?_
 refine c_seq ?_
 refine c_reg ?_
 refine sy (v := Ad (bs g7) (0)) (y_move rfl) ?_
 refine sy (v := Ad (bs g1) (0 + 1)) (y_fld Try.underlying48 rfl rfl sz9 (by decide) rfl) ?_
 refine sy (v := .string (bst c.c.key)) (y_load sc9 rfl (H17.cell 2 rfl rfl)) ?_
 refine st (ow_call fn143 rfl (text_c g7 (([] : List UInt8) ++ numN (u64 c.c.k).toNat) E13 c.c.key _ hO16 (fun p hp => H17.own _ List.mem_cons_self p hp) (by omega) (by first | omega | (simp only [List.length_append, List.length_cons, List.length_nil, List.length_take, List.length_drop, hmac_length, sha_length, List.length_replicate]; omega))) ⟨rfl, rfl, trivial⟩) ?_
 rintro _ w19 ⟨rfl, E18, hO21, H20⟩
 have H22 : St w _ [_, _, _] w19 := H17.appE H20
 refine c_nil ?_
 refine n_then ?_
 refine c_seq ?_
 refine c_reg ?_
 refine sy (v := Ad (bs g7) (0)) (y_move rfl) ?_
 refine sy (v := Ad (bs g1) (0 + 2)) (y_fld Try.underlying48 rfl rfl sz23 (by decide) rfl) ?_
 refine sy (v := c.v) (y_load sc23 rfl (H22.cell 2 rfl rfl)) ?_
 refine st (ow_call fn144 rfl (bytes_c g7 ((([] : List UInt8) ++ numN (u64 c.c.k).toNat) ++ (numN c.c.key.length ++ c.c.key)) E18 c.v c.c.l _ hO21 (fun p hp => H22.own _ List.mem_cons_self p hp) (hC.1.awayP H22) hvs (by first | omega | (simp only [List.length_append, List.length_cons, List.length_nil, List.length_take, List.length_drop, hmac_length, sha_length, List.length_replicate]; omega))) ⟨rfl, rfl, trivial⟩) ?_
 rintro _ w24 ⟨rfl, E23, hO26, H25⟩
 have H27 : St w _ [_, _, _] w24 := H22.appE H25
 refine c_nil ?_
 refine n_then ?_
 refine c_seq ?_
 refine c_reg ?_
 refine sy (v := Ad (bs g7) (0)) (y_move rfl) ?_
 refine st (ow_call fn145 rfl (done_c g7 (((([] : List UInt8) ++ numN (u64 c.c.k).toNat) ++ (numN c.c.key.length ++ c.c.key)) ++ (numN c.c.l.length ++ c.c.l)) E23 _ hO26 (fun p hp => H27.own _ List.mem_cons_self p hp) (by first | omega | (simp only [List.length_append, List.length_cons, List.length_nil, List.length_take, List.length_drop, hmac_length, sha_length, List.length_replicate]; omega))) ⟨rfl, trivial⟩) ?_
 rintro v28 w30 ⟨E29, ho32, H31⟩
 have H33 : St w _ [_, _, _, _] w30 := H27.appE H31
 refine st (ow_buildSlice (pv := [(0, v28)]) (us := [v28]) Try.underlying36 sz23 zr23 H33 ⟨⟨rfl, rfl⟩, trivial⟩ (by decide) (fill1 (ho32.rd H33 0 rfl).cells)) ?_
 rintro _ w35 ⟨g34, rfl, H36⟩
 refine st (ow_call fn121 rfl (hash1_c (0) (.slice (some (bs g34)) 1 1) v28 (((([] : List UInt8) ++ numN (u64 c.c.k).toNat) ++ (numN c.c.key.length ++ c.c.key)) ++ (numN c.c.l.length ++ c.c.l)) _ (rd_lit (k := 1) H36 0 rfl rfl (by simp [maxLen])) ((ho32.rd H36 1 rfl)).nil (by first | omega | (simp only [List.length_append, List.length_cons, List.length_nil, List.length_take, List.length_drop, hmac_length, sha_length, List.length_replicate]; omega))) ⟨rfl, rfl, trivial⟩) ?_
 rintro _ w37 ⟨rfl, hB38⟩
 have H39 : St w _ [_, _, _, _, _] w37 := H36.call hB38
 have H40 : St w _ [_, _, _, _, _] w37 := H39.foc 3 rfl rfl
 refine s0 (ow_storeW (us := (sha (0 :: (((([] : List UInt8) ++ numN (u64 c.c.k).toNat) ++ (numN c.c.key.length ++ c.c.key)) ++ (numN c.c.l.length ++ c.c.l)))).map B8) H40 sz26 ((List.length_map _).trans (sha_length _)) rfl rfl (map_one (F := B8) (fun _ => rfl) _) ((List.length_map _).trans List.length_replicate)) ?_
 rintro _ w41 H42'
 have H42 : St w _ [[(g4, Rw 26 ((sha (0 :: (((([] : List UInt8) ++ numN (u64 c.c.k).toNat) ++ (numN c.c.key.length ++ c.c.key)) ++ (numN c.c.l.length ++ c.c.l)))).map B8))], _, _, _, _] w41 := H42'
 refine c_nil ?_
 refine n_then ?_
 refine wp_ret ?_
 refine e_r1 Try.results123 (rv_b H42 (i := 0) rfl ag26 sz26 ((List.length_map _).trans (sha_length _)) rfl) ?_
 exact ⟨_, rfl, by rw [leafH, leafB]; simp only [List.nil_append], H42.below⟩

theorem inner_c (a b : List UInt8) (w : World) (ha : a.length = 32) (hb : b.length = 32) :
    Calls Try.prog 140 (([.agg (a.map B8).toArray, .agg (b.map B8).toArray] : List Value).toArray) w (fun e w' => ∃ v, e = .returned v ∧ v = .agg ((innerH a b).map B8).toArray ∧ Below w.heap.size w w') := by
 refine calls_mk Try.func140 rfl 9 Try.ntmps140 rfl ?_
 have H0 : St w [] [] w := St.refl w
 refine c_seq ?_
 refine c_reg ?_
 refine st (ow_box (l := (a).map B8) H0 rfl rfl) ?_
 rintro _ w2 ⟨g1, rfl, H3⟩
 refine st (ow_box (l := (b).map B8) H3 rfl rfl) ?_
 rintro _ w5 ⟨g4, rfl, H6⟩
 refine st (ow_alloc (l := (List.replicate 32 0).map B8) H6 zr26 (by simp [Value.cells])) ?_
 rintro _ w8 ⟨g7, rfl, H9⟩
 refine c_nil ?_
 refine n_then ?_
 refine c_seq ?_
 refine drawS (.step 0 0 (.step 0 1 (.step 1 2 (.step 1 3 (.step 2 4 .nil))))) mixed H9 (by kernel_rfl) (by kernel_rfl) (by kernel_rfl) ?_
 intro w10 H11
 refine pt (v := .slice (some (bs g1)) 32 32) rfl (fun wS HS => y_slA (k1 := .i64) (k2 := .i64) (l := 0) (h := 32) Try.underlying26 sz5 rfl (.inl ⟨rfl, rfl⟩) (.inl ⟨rfl, rfl⟩) (by omega) (by omega)) ?_
 refine pt (v := .slice (some (bs g4)) 32 32) rfl (fun wS HS => y_slA (k1 := .i64) (k2 := .i64) (l := 0) (h := 32) Try.underlying26 sz5 rfl (.inl ⟨rfl, rfl⟩) (.inl ⟨rfl, rfl⟩) (by omega) (by omega)) ?_
 refine pl rfl (ow_buildSlice (pv := [(0, .slice (some (bs g1)) 32 32), (1, .slice (some (bs g4)) 32 32)]) (us := [.slice (some (bs g1)) 32 32, .slice (some (bs g4)) 32 32]) Try.underlying36 sz23 zr23 H11 ⟨⟨rfl, rfl⟩, ⟨rfl, rfl⟩, trivial⟩ (by decide) (fill2 rfl rfl)) ?_
 rintro _ w13 ⟨g12, rfl, H14⟩
 have H15 : St w _ [_, _, _, _] w13 := H14.foc 3 rfl rfl
 have H16 : St w _ [_, _, _, _] w13 := H15.foc 3 rfl rfl
 have H17 : St w _ [_, _, _, _] w13 := H16.foc 3 rfl rfl
 have H18 : St w _ [_, _, _] w13 := H17.take 3 rfl
 refine ⟨H18, ?_⟩
 refine pl rfl (ow_call fn121 rfl (hash2_c (1) (.slice (some (bs g12)) 2 2) (.slice (some (bs g1)) 32 32) (.slice (some (bs g4)) 32 32) a b _ (rd_lit (k := 2) H14 0 rfl rfl (by simp [maxLen])) ((rd_arr H14 3 rfl ha (by unfold maxLen; omega))).nil ((rd_arr H14 2 rfl hb (by unfold maxLen; omega))).nil (by first | omega | (simp only [List.length_append, List.length_cons, List.length_nil, List.length_take, List.length_drop, hmac_length, sha_length, List.length_replicate]; omega))) ⟨rfl, rfl, trivial⟩) ?_
 rintro _ w19 ⟨rfl, hB20⟩
 have H21 : St w _ [_, _, _, _] w19 := H14.call hB20
 have H22 : St w _ [_, _, _, _] w19 := H21.foc 3 rfl rfl
 have H23 : St w _ [_, _, _, _] w19 := H22.foc 3 rfl rfl
 have H24 : St w _ [_, _, _, _] w19 := H23.foc 3 rfl rfl
 have H25 : St w _ [_, _, _] w19 := H24.take 3 rfl
 refine ⟨H25, ?_⟩
 have H26 : St w _ [_, _, _, _] w19 := H21.foc 1 rfl rfl
 refine t0 rfl (ow_storeW (us := (sha (1 :: (a ++ b))).map B8) H26 sz26 ((List.length_map _).trans (sha_length _)) rfl rfl (map_one (F := B8) (fun _ => rfl) _) ((List.length_map _).trans List.length_replicate)) ?_
 rintro _ w27 H28'
 have H28 : St w _ [[(g7, Rw 26 ((sha (1 :: (a ++ b))).map B8))], _, _, _] w27 := H28'
 refine p_nil ?_
 refine n_then ?_
 refine wp_ret ?_
 refine e_r1 Try.results140 (rv_b H28 (i := 0) rfl ag26 sz26 ((List.length_map _).trans (sha_length _)) rfl) ?_
 exact ⟨_, rfl, rfl, H28.below⟩

theorem top_c (n : Nat) (v1 : Value) (t : List UInt8) (w : World) (hR : Rd [] w 1 v1 t.length (t.map B8)) (ht : t.length ≤ 1099511627776) (hn : n ≤ 9223372036854775807) :
    Calls Try.prog 87 (([I ((n : Nat) : Int), v1] : List Value).toArray) w (fun e w' => ∃ v, e = .returned v ∧ v = .agg ((topH n t).map B8).toArray ∧ Below w.heap.size w w') := by
 refine calls_mk Try.func87 rfl 22 Try.ntmps87 rfl ?_
 have H0 : St w [] [] w := St.refl w
 refine c_seq ?_
 refine c_reg ?_
 refine st (ow_alloc (l := (List.replicate 32 0).map B8) H0 zr26 (by simp [Value.cells])) ?_
 rintro _ w2 ⟨g1, rfl, H3⟩
 refine c_nil ?_
 refine n_then ?_
 refine c_seq ?_
 refine c_reg ?_
 refine sy (v := .slice none 0 0) (y_assign (v := .slice none 0 0) rfl) ?_
 refine c_nil ?_
 refine n_then ?_
 refine c_seq ?_
 refine c_seq ?_
 refine c_reg ?_
 refine sy (v := I ((0 : Nat) : Int)) (y_assign (v := I ((0 : Nat) : Int)) rfl) ?_
 refine c_nil ?_
 refine n_then ?_
 refine wp_block ?_
 refine c_loop (fun (k : Nat) f4 w5 => ∃ (tv : Value), ∃ (ET : Part), f4 0 = I ((n : Nat) : Int) ∧ f4 1 = v1 ∧ f4 4 = Ad (bs g1) (0) ∧ f4 5 = tv ∧ f4 6 = I ((8 * k : Nat) : Int) ∧ k ≤ 8 ∧ OS 5 1 tv ((l8 n).take k).length (((l8 n).take k).map B8) ET ∧ St w [] [ET, [(g1, Rw 26 ((List.replicate 32 0).map B8))]] w5) (fun k => 8 - k) 0 ⟨_, _, rfl, rfl, rfl, rfl, rfl, (by omega), (OS.nil 5 1), (H3.nilp)⟩ ?_
 rintro k f4 w5 ⟨tv, ET, s0_6, s1_6, s4_6, s5_6, s6_6, hk, hoT, H6⟩
 have htk : ((l8 n).take k).length = k := by rw [List.length_take, l8_len]; omega
 refine c_seq ?_
 refine c_seq ?_
 refine c_reg ?_
 refine sy (v := I ((8 * k : Nat) : Int)) (y_move s6_6) ?_
 refine sy (v := .bool (decide ((8 * k) < 64))) (n_lss (a := 8 * k) (b := 64) rfl rfl) ?_
 refine c_nil ?_
 refine n_then ?_
 refine c_if rfl (fun hc7 => ?_) (fun hc7 => ?_)
 ·
  refine wp_skip ?_
  refine n_then ?_
  refine c_seq ?_
  refine wp_block ?_
  refine c_reg ?_
  refine sy (v := tv) (y_move s5_6) ?_
  refine sy (v := I ((n : Nat) : Int)) (y_move s0_6) ?_
  refine sy (v := I ((8 * k : Nat) : Int)) (y_move s6_6) ?_
  refine sy (v := I ((n / 2 ^ (8 * k) : Nat) : Int)) (n_shr (m := 8 * k) (a := n) rfl rfl (by omega)) ?_
  refine sy (v := B8 (b8 ((n / 2 ^ (8 * k) : Nat)))) (y_conv_I_8 Try.underlying3 Try.underlying5 rfl) ?_
  refine st (ow_buildSlice (pv := [(0, B8 (b8 ((n / 2 ^ (8 * k) : Nat))))]) (us := [B8 (b8 ((n / 2 ^ (8 * k) : Nat)))]) Try.underlying23 sz5 zr5 H6 ⟨⟨rfl, rfl⟩, trivial⟩ (by decide) (fill1 rfl)) ?_
  rintro _ w9 ⟨g8, rfl, H10⟩
  have H11 : St w _ [_, _, _] w9 := H10.foc 1 rfl rfl
  refine st (ow_appendW Try.underlying23 sz5 zr5 bt5 rfl hoT H11 rfl rfl ((rd_lit (k := 1) (us := [B8 (b8 ((n / 2 ^ (8 * k) : Nat)))]) H10 0 rfl rfl (by simp [maxLen])).src Try.underlying23 (by simp [Value.oneCell'])) (by first | omega | (simp only [List.length_append, List.length_cons, List.length_nil, List.length_take, List.length_drop, hmac_length, sha_length, List.length_replicate]; omega)) (by first | omega | (simp only [List.length_append, List.length_cons, List.length_nil, List.length_take, List.length_drop, hmac_length, sha_length, List.length_replicate]; omega))) ?_
  rintro v13 w14 ⟨E12, ho16', H15⟩
  have ho16 : OS 5 1 v13 (((l8 n).take k) ++ ([b8 ((n / 2 ^ (8 * k) : Nat))])).length ((((l8 n).take k) ++ ([b8 ((n / 2 ^ (8 * k) : Nat))])).map B8) E12 := by rw [List.length_append, List.map_append]; exact ho16'
  refine sy (v := v13) (y_assign rfl) ?_
  refine c_nil ?_
  refine n_block (n_then ?_)
  refine c_reg ?_
  refine sy (v := I ((8 * k : Nat) : Int)) (y_move s6_6) ?_
  refine sy (v := I (((8 * k) + 8 : Nat) : Int)) (n_add (a := 8 * k) (b := 8) rfl rfl (by omega)) ?_
  refine sy (v := I (((8 * k) + 8 : Nat) : Int)) (y_assign rfl) ?_
  refine c_nil ?_
  have H17 : St w _ [_, _, _] w14 := H15.foc 2 rfl rfl
  have H18 : St w _ [_, _, _] w14 := H17.foc 1 rfl rfl
  have H19 : St w _ [_, _] w14 := H18.take 2 rfl
  exact lp_next (k + 1) ⟨v13, E12, s0_6, s1_6, s4_6, rfl, (by show I _ = I _; congr 1), (by omega), (by rw [← l8_take (by omega)]; exact ho16), H19⟩ (by show _ < _; omega)
 ·
  obtain rfl : k = 8 := by omega
  rw [List.take_of_length_le (by rw [l8_len]; omega)] at hoT htk
  refine wp_exit ?_
  refine x_then (x_then (x_hit (n_then ?_)))
  refine c_seq ?_
  refine c_reg ?_
  refine sy (v := tv) (y_move s5_6) ?_
  refine sy (v := v1) (y_move s1_6) ?_
  refine st (ow_buildSlice (pv := [(0, tv), (1, v1)]) (us := [tv, v1]) Try.underlying36 sz23 zr23 H6 ⟨⟨rfl, rfl⟩, ⟨rfl, rfl⟩, trivial⟩ (by decide) (fill2 (hoT.rd H6 0 rfl).cells (hR.st H6).cells)) ?_
  rintro _ w21 ⟨g20, rfl, H22⟩
  refine st (ow_call fn121 rfl (hash2_c (2) (.slice (some (bs g20)) 2 2) tv v1 (l8 n) t _ (rd_lit (k := 2) H22 0 rfl rfl (by simp [maxLen])) ((hoT.rd H22 1 rfl)).nil ((hR.st H22)).nil (by first | omega | (simp only [List.length_append, List.length_cons, List.length_nil, List.length_take, List.length_drop, hmac_length, sha_length, List.length_replicate]; omega))) ⟨rfl, rfl, trivial⟩) ?_
  rintro _ w23 ⟨rfl, hB24⟩
  have H25 : St w _ [_, _, _] w23 := H22.call hB24
  have H26 : St w _ [_, _, _] w23 := H25.foc 2 rfl rfl
  refine s0 (ow_storeW (us := (sha (2 :: ((l8 n) ++ t))).map B8) H26 sz26 ((List.length_map _).trans (sha_length _)) s4_6 rfl (map_one (F := B8) (fun _ => rfl) _) ((List.length_map _).trans List.length_replicate)) ?_
  rintro _ w27 H28'
  have H28 : St w _ [[(g1, Rw 26 ((sha (2 :: ((l8 n) ++ t))).map B8))], _, _] w27 := H28'
  refine c_nil ?_
  refine n_then ?_
  refine wp_ret ?_
  refine e_r1 Try.results87 (rv_b H28 (i := 0) rfl ag26 sz26 ((List.length_map _).trans (sha_length _)) s4_6) ?_
  exact ⟨_, rfl, rfl, H28.below⟩

theorem half_c (n : Nat) (w : World) (hn : 1 < n) (hn2 : n ≤ 9223372036854775807) :
    Calls Try.prog 128 (([I ((n : Nat) : Int)] : List Value).toArray) w (fun e w' => ∃ v, e = .returned v ∧ v = I ((half n : Nat) : Int) ∧ Below w.heap.size w w') := by
 refine calls_mk Try.func128 rfl 12 Try.ntmps128 rfl ?_
 have H0 : St w [] [] w := St.refl w
 refine c_seq ?_
 refine c_reg ?_
 refine sy (v := I ((0 : Nat) : Int)) (y_assign (v := I ((0 : Nat) : Int)) rfl) ?_
 refine c_nil ?_
 refine n_then ?_
 refine c_seq ?_
 refine c_reg ?_
 refine sy (v := I ((1 : Nat) : Int)) (y_assign (v := I ((1 : Nat) : Int)) rfl) ?_
 refine c_nil ?_
 refine n_then ?_
 refine c_seq ?_
 refine wp_block ?_
 refine c_loop (fun (f : Nat) f1 w2 => ∃ (m : Nat), f1 0 = I ((n : Nat) : Int) ∧ f1 3 = I ((m : Nat) : Int) ∧ halfF f m n = half n ∧ m * 2 ^ f = 18446744073709551616 ∧ m < n ∧ St w [] [] w2) (fun f => f) 64 ⟨1, rfl, rfl, rfl, (by decide), (by omega), H0⟩ ?_
 rintro f f1 w2 ⟨m, s0_3, s3_3, hb, hz, hm, H3⟩
 refine c_seq ?_
 refine c_seq ?_
 refine c_reg ?_
 refine sy (v := I ((m : Nat) : Int)) (y_move s3_3) ?_
 refine sy (v := I ((n : Nat) : Int)) (y_move s0_3) ?_
 refine sy (v := I ((m : Nat) : Int)) (y_move s3_3) ?_
 refine sy (v := I ((n - m : Nat) : Int)) (n_sub (a := n) (b := m) rfl rfl (by omega) (by omega)) ?_
 refine sy (v := .bool (decide (m < (n - m)))) (n_lss (a := m) (b := n - m) rfl rfl) ?_
 refine c_nil ?_
 refine n_then ?_
 refine c_if rfl (fun hc4 => ?_) (fun hc4 => ?_)
 ·
  refine wp_skip ?_
  refine n_then ?_
  refine wp_block ?_
  refine c_reg ?_
  refine sy (v := I ((m : Nat) : Int)) (y_move s3_3) ?_
  refine sy (v := I ((m * 2 : Nat) : Int)) (n_mul (a := m) (b := 2) rfl rfl (by omega)) ?_
  refine sy (v := I ((m * 2 : Nat) : Int)) (y_assign rfl) ?_
  refine c_nil ?_
  refine n_block ?_
  obtain ⟨f', rfl, hb', hz', hm'⟩ := half_step hb hz (by assumption) hn2
  exact lp_next f' ⟨_, s0_3, rfl, hb', hz', hm', H3⟩ (by show _ < _; omega)
 ·
  refine wp_exit ?_
  refine x_then (x_then (x_hit (n_then ?_)))
  refine c_seq ?_
  refine c_reg ?_
  refine sy (v := I ((m : Nat) : Int)) (y_move s3_3) ?_
  refine sy (v := I ((m : Nat) : Int)) (y_assign rfl) ?_
  refine c_nil ?_
  refine n_then ?_
  refine wp_ret ?_
  refine e_r1 Try.results128 (rv_t rfl) ?_
  have hq : m = half n := by rw [← hb]; exact (half_end (by omega) hm).symm
  exact ⟨_, rfl, congrArg (fun q : Nat => I (q : Int)) hq, H3.below⟩

end Go.Proofs.Ytdcmbcjkdhdohaa
