/- Walks: pleachref03.Mac and what it calls. -/
import Derived.Test.YtdcmbcjkdhdohaaDoorRef1
import Derived.Test.YtdcmbcjkdhdohaaDoorSeal1
import Derived.Test.YtdcmbcjkdhdohaaDoorStr
namespace Go.Proofs.YtdcmbcjkdhdohaaDoor
open Go Go.RowKit
attribute [local irreducible] wpList wpP Code.wp

theorem keyB_cons (l : List UInt8) (h : l.length ≤ 64) : lay (List.replicate 64 0) 0 l = l ++ List.replicate (64 - l.length) 0 := by
  simp only [lay, List.take_zero, List.nil_append, List.drop_replicate, Nat.zero_add]
theorem keyB_eq (l : List UInt8) : keyB l = (if 64 < l.length then sha l else l) ++ List.replicate (64 - (if 64 < l.length then sha l else l).length) 0 := by
  unfold keyB
  split
  · rw [keyB_cons _ (by rw [sha_length]; omega)]
  · rw [keyB_cons _ (by omega)]
def keyK (l : List UInt8) : List UInt8 := if 64 < l.length then sha l else l
theorem keyK_le (l : List UInt8) : (keyK l).length ≤ 64 := by
  unfold keyK
  split
  · rw [sha_length]; omega
  · omega

theorem take_snoc {h : List UInt8} {i : Nat} (hi : i < h.length) : h.take (i + 1) = h.take i ++ [h.getD i 0] := by
  rw [List.take_add_one, List.getD_eq_getElem?_getD, List.getElem?_eq_getElem hi]; rfl

theorem hashed_c (h : List UInt8) (w : World) (hh : h.length = 32) :
    Calls Tryd.prog 24 (([.agg ((h).map B8).toArray] : List Value).toArray) w (fun e w' => ∃ v, e = .returned v ∧ ∃ E, OS 5 1 v h.length (h.map B8) E ∧ St w [] [E] w') := by
  refine calls_mk Tryd.func24 rfl 17 Tryd.ntmps24 rfl ?_
  have H0 : St w [] [] w := St.refl w
  refine c_seq ?_
  refine c_reg ?_
  refine st (ow_box (l := (h).map B8) H0 rfl rfl) ?_
  rintro _ w2 ⟨g1, rfl, H3⟩
  refine sy (v := .slice none 0 0) (y_assign (v := .slice none 0 0) rfl) ?_
  refine c_nil ?_
  refine n_then ?_
  refine c_seq ?_
  refine c_reg ?_
  refine st (ow_buildSlice (pv := []) (us := []) Tryd.underlying22 sz5 zr5 H3 trivial (by decide) fill0) ?_
  rintro _ w5 ⟨g4, rfl, H6⟩
  refine sy (v := .slice (some (bs g4)) 0 0) (y_assign rfl) ?_
  refine c_nil ?_
  refine n_then ?_
  refine c_seq ?_
  refine c_seq ?_
  refine c_reg ?_
  refine sy (v := I ((0 : Nat) : Int)) (y_assign (v := I ((0 : Nat) : Int)) rfl) ?_
  refine c_nil ?_
  refine n_then ?_
  refine wp_block ?_
  refine c_loop (fun (i : Nat) f7 w8 => ∃ (tv : Value), ∃ (ET : Part), f7 1 = Ad (bs g1) (0) ∧ f7 3 = tv ∧ f7 4 = I ((i : Nat) : Int) ∧ i ≤ 32 ∧ OS 5 1 tv (h.take i).length ((h.take i).map B8) ET ∧ St w [] [ET, [(g1, Rw 40 ((h).map B8))]] w8) (fun i => 32 - i) 0 ⟨_, _, rfl, rfl, rfl, (by omega), (os_lit rfl (by simp [maxLen])), H6⟩ ?_
  rintro i f7 w8 ⟨tv, ET, s1_9, s3_9, s4_9, hi, hoT, H9⟩
  have hti : (h.take i).length = i := by rw [List.length_take]; omega
  refine c_seq ?_
  refine c_seq ?_
  refine c_reg ?_
  refine sy (v := I ((i : Nat) : Int)) (y_move s4_9) ?_
  refine sy (v := .bool (decide (i < 32))) (n_lss (a := i) (b := 32) rfl rfl) ?_
  refine c_nil ?_
  refine n_then ?_
  refine c_if rfl (fun hc10 => ?_) (fun hc10 => ?_)
  · skip
    refine wp_skip ?_
    refine n_then ?_
    refine c_seq ?_
    refine wp_block ?_
    refine c_reg ?_
    refine sy (v := tv) (y_move s3_9) ?_
    refine sy (v := I ((i : Nat) : Int)) (y_move s4_9) ?_
    refine sy (v := Ad (bs g1) (0 + i * 1)) (y_ixA (m := i) Tryd.underlying40 sz5 s1_9 rfl rfl (by omega)) ?_
    refine sy (v := B8 (h.getD i 0)) (y_load sc5 rfl (H9.cell 1 rfl (by simp only [Nat.zero_add, Nat.mul_one]; exact map_get B8 0 (by omega)))) ?_
    refine st (ow_buildSlice (pv := [(0, B8 (h.getD i 0))]) (us := [B8 (h.getD i 0)]) Tryd.underlying22 sz5 zr5 H9 ⟨⟨rfl, rfl⟩, trivial⟩ (by decide) (fill1 rfl)) ?_
    rintro _ w12 ⟨g11, rfl, H13⟩
    have H14 : St w [] [ET, [(g11, Rw 5 ([B8 (h.getD i 0)]))], [(g1, Rw 40 ((h).map B8))]] w12 := H13.foc 1 rfl rfl
    refine st (ow_append Tryd.underlying22 sz5 zr5 bt5 rfl hoT H14 rfl rfl ((rd_lit (k := 1) (us := [B8 (h.getD i 0)]) H13 0 rfl rfl (by simp [maxLen])).src Tryd.underlying22 (by simp [Value.oneCell'])) (by omega) (by omega)) ?_
    rintro v16 w17 ⟨E15, ho19', H18⟩
    have ho19 : OS 5 1 v16 ((h.take i) ++ ([h.getD i 0])).length (((h.take i) ++ ([h.getD i 0])).map B8) E15 := by rw [List.length_append, List.map_append]; exact ho19'
    refine sy (v := v16) (y_assign rfl) ?_
    refine c_nil ?_
    refine n_block (n_then ?_)
    refine c_reg ?_
    refine sy (v := I ((i : Nat) : Int)) (y_move s4_9) ?_
    refine sy (v := I ((i + 1 : Nat) : Int)) (n_add (a := i) (b := 1) rfl rfl (by omega)) ?_
    refine sy (v := I ((i + 1 : Nat) : Int)) (y_assign rfl) ?_
    refine c_nil ?_
    have H20 : St w [] [[(g1, Rw 40 ((h).map B8))], E15, [(g11, Rw 5 ([B8 (h.getD i 0)]))]] w17 := H18.foc 2 rfl rfl
    have H21 : St w [] [E15, [(g1, Rw 40 ((h).map B8))], [(g11, Rw 5 ([B8 (h.getD i 0)]))]] w17 := H20.foc 1 rfl rfl
    have H22 : St w [] [E15, [(g1, Rw 40 ((h).map B8))]] w17 := H21.take 2 rfl
    exact lp_next (i + 1) ⟨v16, E15, s1_9, rfl, rfl, (by omega), (by rw [take_snoc (by omega)]; exact ho19), H22⟩ (by show _ < _; omega)
  · skip
    obtain rfl : i = 32 := by omega
    rw [List.take_of_length_le (by omega)] at hoT
    refine wp_exit ?_
    refine x_then (x_then (x_hit (n_then ?_)))
    refine c_seq ?_
    refine c_reg ?_
    refine sy (v := tv) (y_move s3_9) ?_
    refine sy (v := tv) (y_assign rfl) ?_
    refine c_nil ?_
    refine n_then ?_
    refine wp_ret ?_
    refine e_r1 Tryd.results24 (rv_t rfl) ?_
    have H23 : St w [] [ET] w8 := H9.take 1 rfl
    exact ⟨_, rfl, _, hoT, H23⟩

theorem take_get {cu : List Value} {k i : Nat} {u : Value} (hi : i < k) (h : (cu.take k)[i]? = some u) : cu[i]? = some u := by
  rwa [List.getElem?_take_of_lt hi] at h

theorem rpad_c (v0 : Value) (l : List UInt8) (x : UInt8) (w : World) (hR : Rd [] w 1 v0 l.length (l.map B8)) (hlen : l.length ≤ 140737488355200) :
    Calls Tryd.prog 22 (([v0, B8 (x)] : List Value).toArray) w (fun e w' => ∃ v, e = .returned v ∧ ∃ E, OS 5 1 v (tn (keyB l) x 64).length ((tn (keyB l) x 64).map B8) E ∧ St w [] [E] w') := by
  refine calls_mk Tryd.func22 rfl 34 Tryd.ntmps22 rfl ?_
  have H0 : St w [] [] w := St.refl w
  refine c_seq ?_
  refine c_reg ?_
  refine sy (v := .slice none 0 0) (y_assign (v := .slice none 0 0) rfl) ?_
  refine c_nil ?_
  refine n_then ?_
  refine c_seq ?_
  refine c_reg ?_
  refine st (ow_buildSlice (pv := []) (us := []) Tryd.underlying22 sz5 zr5 H0 trivial (by decide) fill0) ?_
  rintro _ w2 ⟨g1, rfl, H3⟩
  refine sy (v := v0) (y_move rfl) ?_
  refine st (ow_append Tryd.underlying22 sz5 zr5 bt5 rfl (os_lit (k := 0) rfl (by simp [maxLen])) H3 rfl rfl ((hR.st H3).src Tryd.underlying22 (map_one (F := B8) (fun _ => rfl) _)) (by omega) (by omega)) ?_
  rintro v5 w6 ⟨E4, ho8', H7⟩
  have ho8 : OS 5 1 v5 (l).length ((l).map B8) E4 := by simpa using ho8'
  refine sy (v := v5) (y_assign rfl) ?_
  refine c_nil ?_
  refine n_then ?_
  refine c_seq ?_
  refine c_seq ?_
  refine c_reg ?_
  refine sy (v := v0) (y_move rfl) ?_
  refine sy (v := I ((l.length : Nat) : Int)) (y_lenR Tryd.underlying22 (hR.st H7) rfl) ?_
  refine sy (v := .bool (decide (64 < l.length))) (n_gtr (a := l.length) (b := 64) rfl rfl) ?_
  refine c_nil ?_
  refine n_then ?_
  refine c_cut (n := 34) (fun f9 w10 => ∃ (kv : Value), ∃ (EK : Part), f9 1 = B8 (x) ∧ f9 5 = kv ∧ OS 5 1 kv (keyK l).length ((keyK l).map B8) EK ∧ St w [] [EK] w10) ?_ ?_
  · skip
    refine c_if rfl (fun hc11 => ?_) (fun hc11 => ?_)
    · skip
      refine c_reg ?_
      refine sy (v := v0) (y_move rfl) ?_
      refine st (ow_call fn23 rfl (rof_c (v0) (l) _ ((hR.st H7)).nil (by omega)) ⟨rfl, trivial⟩) ?_
      rintro _ w12 ⟨rfl, hB13⟩
      have H14 : St w [] [E4] w12 := H7.call hB13
      refine st (ow_call fn24 rfl (hashed_c (sha (l)) _ (sha_length _)) ⟨rfl, trivial⟩) ?_
      rintro v15 w16 ⟨E17, ho18, H19⟩
      have H20 : St w [] [E17, E4] w16 := H14.app H19
      refine sy (v := v15) (y_assign rfl) ?_
      refine c_nil ?_
      have H21 : St w [] [E17] w16 := H20.take 1 rfl
      exact qj_n ⟨v15, E17, rfl, rfl, (by unfold keyK; rw [if_pos (by omega)]; exact ho18), H21⟩
    · skip
      refine wp_skip ?_
      exact qj_n ⟨v5, E4, rfl, rfl, (by unfold keyK; rw [if_neg (by omega)]; exact ho8), H7⟩
  · skip
    rintro f9 w10 ⟨kv, EK, s1_22, s5_22, hoK, H22⟩
    have hkl := keyK_le l
    refine n_then ?_
    refine c_seq ?_
    refine wp_block ?_
    refine c_loop (fun (j : Nat) f23 w24 => ∃ (tv : Value), ∃ (ET : Part), f23 1 = B8 (x) ∧ f23 5 = tv ∧ j ≤ 64 - (keyK l).length ∧ OS 5 1 tv (keyK l ++ List.replicate j 0).length ((keyK l ++ List.replicate j 0).map B8) ET ∧ St w [] [ET] w24) (fun j => 64 - (keyK l).length - j) 0 ⟨_, _, s1_22, s5_22, (Nat.zero_le _), (by rw [List.replicate_zero, List.append_nil]; exact hoK), H22⟩ ?_
    rintro j f23 w24 ⟨tv, ET, s1_25, s5_25, hj, hoT, H25⟩
    have hLj : (keyK l ++ List.replicate j 0).length = (keyK l).length + j := by rw [List.length_append, List.length_replicate]
    refine c_seq ?_
    refine c_seq ?_
    refine c_reg ?_
    refine sy (v := tv) (y_move s5_25) ?_
    refine sy (v := I (((keyK l ++ List.replicate j 0).length : Nat) : Int)) (y_lenR Tryd.underlying22 (hoT.rd H25 0 rfl) rfl) ?_
    refine sy (v := .bool (decide (((keyK l ++ List.replicate j 0).length) < 64))) (n_lss (a := (keyK l ++ List.replicate j 0).length) (b := 64) rfl rfl) ?_
    refine c_nil ?_
    refine n_then ?_
    refine c_if rfl (fun hc26 => ?_) (fun hc26 => ?_)
    · skip
      refine wp_skip ?_
      refine n_then ?_
      refine wp_block ?_
      refine c_reg ?_
      refine sy (v := tv) (y_move s5_25) ?_
      refine st (ow_buildSlice (pv := [(0, B8 (0))]) (us := [B8 (0)]) Tryd.underlying22 sz5 zr5 H25 ⟨⟨rfl, rfl⟩, trivial⟩ (by decide) (fill1 rfl)) ?_
      rintro _ w28 ⟨g27, rfl, H29⟩
      have H30 : St w [] [ET, [(g27, Rw 5 ([B8 (0)]))]] w28 := H29.foc 1 rfl rfl
      refine st (ow_append Tryd.underlying22 sz5 zr5 bt5 rfl hoT H30 rfl rfl ((rd_lit (k := 1) (us := [B8 (0)]) H29 0 rfl rfl (by simp [maxLen])).src Tryd.underlying22 (by simp [Value.oneCell'])) (by omega) (by omega)) ?_
      rintro v32 w33 ⟨E31, ho35', H34⟩
      have ho35 : OS 5 1 v32 ((keyK l ++ List.replicate j 0) ++ ([0])).length (((keyK l ++ List.replicate j 0) ++ ([0])).map B8) E31 := by rw [List.length_append, List.map_append]; exact ho35'
      refine sy (v := v32) (y_assign rfl) ?_
      refine c_nil ?_
      refine n_block ?_
      have H36 : St w [] [E31] w33 := H34.take 1 rfl
      exact lp_next (j + 1) ⟨v32, E31, s1_25, rfl, (by omega), (by rw [List.replicate_succ', ← List.append_assoc]; exact ho35), H36⟩ (by show _ < _; omega)
    · skip
      obtain rfl : j = 64 - (keyK l).length := by omega
      rw [show keyK l ++ List.replicate (64 - (keyK l).length) 0 = keyB l from (keyB_eq l).symm] at hoT
      have hkB := keyB_length l
      rw [hkB] at hoT
      obtain ⟨g5, cap5, cur5, rfl, rfl, hcap, hcm, hcl, hct⟩ := hoT.resolve_left (by rintro ⟨-, h, -⟩; omega)
      refine wp_exit ?_
      refine x_then (x_then (x_hit (n_then ?_)))
      refine c_seq ?_
      refine c_seq ?_
      refine c_reg ?_
      refine sy (v := I ((0 : Nat) : Int)) (y_assign (v := I ((0 : Nat) : Int)) rfl) ?_
      refine c_nil ?_
      refine n_then ?_
      refine wp_block ?_
      refine c_loop (fun (i : Nat) f37 w38 => ∃ (cu : List Value), f37 1 = B8 (x) ∧ f37 5 = .slice (some (bs g5)) (64) (cap5) ∧ f37 6 = I ((i : Nat) : Int) ∧ i ≤ 64 ∧ cu.length = cap5 * 1 ∧ cu.take (64 * 1) = (tn (keyB l) x i).map B8 ∧ St w [] [[(g5, Rw 5 (cu))]] w38) (fun i => 64 - i) 0 ⟨_, s1_25, s5_25, rfl, (by omega), hcl, hct, H25⟩ ?_
      rintro i f37 w38 ⟨cu, s1_39, s5_39, s6_39, hi, hcu, hct2, H39⟩
      have htl := tn_length (keyB l) x i
      rw [keyB_length] at htl
      refine c_seq ?_
      refine c_seq ?_
      refine c_reg ?_
      refine sy (v := I ((i : Nat) : Int)) (y_move s6_39) ?_
      refine sy (v := .bool (decide (i < 64))) (n_lss (a := i) (b := 64) rfl rfl) ?_
      refine c_nil ?_
      refine n_then ?_
      refine c_if rfl (fun hc40 => ?_) (fun hc40 => ?_)
      · skip
        refine wp_skip ?_
        refine n_then ?_
        refine c_seq ?_
        refine wp_block ?_
        refine c_reg ?_
        refine sy (v := .slice (some (bs g5)) (64) (cap5)) (y_move s5_39) ?_
        refine sy (v := I ((i : Nat) : Int)) (y_move s6_39) ?_
        refine sy (v := Ad (bs g5) (i * 1)) (y_ixS (m := i) Tryd.underlying22 sz5 rfl rfl rfl (by omega)) ?_
        refine sy (v := B8 ((tn (keyB l) x i).getD i 0)) (y_load sc5 rfl (H39.cell 0 rfl (by rw [Nat.mul_one]; exact take_get (k := 64 * 1) (by omega) (hct2 ▸ map_get B8 0 (by omega))))) ?_
        refine sy (v := B8 (x)) (y_move s1_39) ?_
        refine sy (v := B8 (((tn (keyB l) x i).getD i 0) ^^^ x)) (y_xor8 (a := (tn (keyB l) x i).getD i 0) (b := x) rfl rfl) ?_
        refine sy (v := Ad (bs g5) (i * 1)) (y_ixS (m := i) Tryd.underlying22 sz5 rfl rfl rfl (by omega)) ?_
        refine s0 (ow_store (j := i) H39 sz5 rfl rfl rfl (by omega) (by omega)) ?_
        rintro _ w41 H42
        refine c_nil ?_
        refine n_block (n_then ?_)
        refine c_reg ?_
        refine sy (v := I ((i : Nat) : Int)) (y_move s6_39) ?_
        refine sy (v := I ((i + 1 : Nat) : Int)) (n_add (a := i) (b := 1) rfl rfl (by omega)) ?_
        refine sy (v := I ((i + 1 : Nat) : Int)) (y_assign rfl) ?_
        refine c_nil ?_
        exact lp_next (i + 1) ⟨_, s1_39, s5_39, rfl, (by omega), (by rw [List.length_set]; exact hcu), (by rw [List.take_set, hct2]; exact (List.map_set ..).symm), H42⟩ (by show _ < _; omega)
      · skip
        obtain rfl : i = 64 := by omega
        refine wp_exit ?_
        refine x_then (x_then (x_hit (n_then ?_)))
        refine c_seq ?_
        refine c_reg ?_
        refine sy (v := .slice (some (bs g5)) (64) (cap5)) (y_move s5_39) ?_
        refine sy (v := .slice (some (bs g5)) (64) (cap5)) (y_assign rfl) ?_
        refine c_nil ?_
        refine n_then ?_
        refine wp_ret ?_
        refine e_r1 Tryd.results22 (rv_t rfl) ?_
        refine ⟨_, rfl, [(g5, Rw 5 cu)], ?_, H39⟩
        rw [htl]; exact .inr ⟨g5, cap5, cu, rfl, rfl, hcap, hcm, hcu, hct2⟩

theorem rmac_c (v0 v1 : Value) (lk l : List UInt8) (w : World) (hK : Rd [] w 1 v0 lk.length (lk.map B8)) (hR : Rd [] w 1 v1 l.length (l.map B8)) (hlk : lk.length ≤ 140737488355200) (hl : l.length ≤ 140737488355136) :
    Calls Tryd.prog 15 (([v0, v1] : List Value).toArray) w (fun e w' => ∃ v, e = .returned v ∧ v = .agg ((hmac lk l).map B8).toArray ∧ Below w.heap.size w w') := by
  have ht1 : (tn (keyB lk) 54 64).length = 64 := by simp
  have ht2 : (tn (keyB lk) 92 64).length = 64 := by simp
  have ht3 : (sha (tn (keyB lk) 54 64 ++ l)).length = 32 := sha_length _
  have ht4 : (tn (keyB lk) 54 64 ++ l).length = 64 + l.length := by rw [List.length_append, ht1]
  have ht5 : (tn (keyB lk) 92 64 ++ sha (tn (keyB lk) 54 64 ++ l)).length = 96 := by rw [List.length_append, ht2, ht3]
  refine calls_mk Tryd.func15 rfl 21 Tryd.ntmps15 rfl ?_
  have H0 : St w [] [] w := St.refl w
  refine c_seq ?_
  refine c_reg ?_
  refine st (ow_alloc (l := (List.replicate 32 0).map B8) H0 zr40 (by simp [Value.cells])) ?_
  rintro _ w2 ⟨g1, rfl, H3⟩
  refine c_nil ?_
  refine n_then ?_
  refine c_seq ?_
  refine c_reg ?_
  refine sy (v := v0) (y_move rfl) ?_
  refine st (ow_call fn22 rfl (rpad_c (v0) (lk) (54) _ ((hK.st H3)).nil (by omega)) ⟨rfl, rfl, trivial⟩) ?_
  rintro v4 w5 ⟨E6, ho7, H8⟩
  have H9 : St w [] [E6, [(g1, Rw 40 ((List.replicate 32 0).map B8))]] w5 := H3.app H8
  refine sy (v := v1) (y_move rfl) ?_
  refine st (ow_append Tryd.underlying22 sz5 zr5 bt5 rfl ho7 H9 rfl rfl ((hR.st H9).src Tryd.underlying22 (map_one (F := B8) (fun _ => rfl) _)) (by omega) (by omega)) ?_
  rintro v11 w12 ⟨E10, ho14', H13⟩
  have ho14 : OS 5 1 v11 ((tn (keyB lk) 54 64) ++ l).length (((tn (keyB lk) 54 64) ++ l).map B8) E10 := by rw [List.length_append, List.map_append]; exact ho14'
  refine sy (v := v11) (y_assign rfl) ?_
  refine c_nil ?_
  refine n_then ?_
  refine c_seq ?_
  refine c_reg ?_
  refine sy (v := v11) (y_move rfl) ?_
  refine st (ow_call fn23 rfl (rof_c (v11) ((tn (keyB lk) 54 64) ++ l) _ ((ho14.rd H13 0 rfl)).nil (by omega)) ⟨rfl, trivial⟩) ?_
  rintro _ w15 ⟨rfl, hB16⟩
  have H17 : St w [] [E10, [(g1, Rw 40 ((List.replicate 32 0).map B8))]] w15 := H13.call hB16
  refine st (ow_alloc (l := (List.replicate 32 0).map B8) H17 zr40 (by simp [Value.cells])) ?_
  rintro _ w19 ⟨g18, rfl, H20⟩
  refine s0 (ow_storeW (us := (sha ((tn (keyB lk) 54 64) ++ l)).map B8) H20 sz40 ((List.length_map _).trans (sha_length _)) rfl rfl (map_one (F := B8) (fun _ => rfl) _) ((List.length_map _).trans List.length_replicate)) ?_
  rintro _ w21 H22'
  have H22 : St w [] [[(g18, Rw 40 ((sha ((tn (keyB lk) 54 64) ++ l)).map B8))], E10, [(g1, Rw 40 ((List.replicate 32 0).map B8))]] w21 := H22'
  refine c_nil ?_
  refine n_then ?_
  refine c_seq ?_
  refine drawS (.step 0 0 (.step 0 2 (.step 1 1 (.step 1 3 (.step 1 4 (.step 2 5 .nil)))))) mixed H22 (by kernel_rfl) (by kernel_rfl) (by kernel_rfl) ?_
  intro w23 H24
  refine pt (v := v0) rfl (fun wS HS => y_move rfl) ?_
  refine pt (v := .agg ((sha ((tn (keyB lk) 54 64) ++ l)).map B8).toArray) rfl (fun wS HS => y_loadA (us := (sha ((tn (keyB lk) 54 64) ++ l)).map B8) ag40 sz40 ((List.length_map _).trans (sha_length _)) rfl (fun j u hu => (HS.cell 0 rfl (by rw [Nat.zero_add]; exact hu)))) ?_
  refine pl rfl (ow_call fn22 rfl (rpad_c (v0) (lk) (92) _ ((hK.st H24)).nil (by omega)) ⟨rfl, rfl, trivial⟩) ?_
  rintro v25 w26 ⟨E27, ho28, H29⟩
  have H30 : St w [] [E27, [(g18, Rw 40 ((sha ((tn (keyB lk) 54 64) ++ l)).map B8))], E10, [(g1, Rw 40 ((List.replicate 32 0).map B8))]] w26 := H24.app H29
  have H31 : St w [] [[(g1, Rw 40 ((List.replicate 32 0).map B8))], E27, [(g18, Rw 40 ((sha ((tn (keyB lk) 54 64) ++ l)).map B8))], E10] w26 := H30.foc 3 rfl rfl
  have H32 : St w [] [E10, [(g1, Rw 40 ((List.replicate 32 0).map B8))], E27, [(g18, Rw 40 ((sha ((tn (keyB lk) 54 64) ++ l)).map B8))]] w26 := H31.foc 3 rfl rfl
  have H33 : St w [] [[(g18, Rw 40 ((sha ((tn (keyB lk) 54 64) ++ l)).map B8))], E10, [(g1, Rw 40 ((List.replicate 32 0).map B8))], E27] w26 := H32.foc 3 rfl rfl
  have H34 : St w [] [[(g18, Rw 40 ((sha ((tn (keyB lk) 54 64) ++ l)).map B8))], E10, [(g1, Rw 40 ((List.replicate 32 0).map B8))]] w26 := H33.take 3 rfl
  refine ⟨H34, ?_⟩
  refine pl rfl (ow_call fn24 rfl (hashed_c (sha ((tn (keyB lk) 54 64) ++ l)) _ (sha_length _)) ⟨rfl, trivial⟩) ?_
  rintro v35 w36 ⟨E37, ho38, H39⟩
  have H40 : St w [] [E37, E27, [(g18, Rw 40 ((sha ((tn (keyB lk) 54 64) ++ l)).map B8))], E10, [(g1, Rw 40 ((List.replicate 32 0).map B8))]] w36 := H30.app H39
  have H41 : St w [] [[(g1, Rw 40 ((List.replicate 32 0).map B8))], E37, E27, [(g18, Rw 40 ((sha ((tn (keyB lk) 54 64) ++ l)).map B8))], E10] w36 := H40.foc 4 rfl rfl
  have H42 : St w [] [E10, [(g1, Rw 40 ((List.replicate 32 0).map B8))], E37, E27, [(g18, Rw 40 ((sha ((tn (keyB lk) 54 64) ++ l)).map B8))]] w36 := H41.foc 4 rfl rfl
  have H43 : St w [] [[(g18, Rw 40 ((sha ((tn (keyB lk) 54 64) ++ l)).map B8))], E10, [(g1, Rw 40 ((List.replicate 32 0).map B8))], E37, E27] w36 := H42.foc 4 rfl rfl
  have H44 : St w [] [[(g18, Rw 40 ((sha ((tn (keyB lk) 54 64) ++ l)).map B8))], E10, [(g1, Rw 40 ((List.replicate 32 0).map B8))]] w36 := H43.take 3 rfl
  refine ⟨H44, ?_⟩
  have H45 : St w [] [E27, E37, [(g18, Rw 40 ((sha ((tn (keyB lk) 54 64) ++ l)).map B8))], E10, [(g1, Rw 40 ((List.replicate 32 0).map B8))]] w36 := H40.foc 1 rfl rfl
  refine pl rfl (ow_append Tryd.underlying22 sz5 zr5 bt5 rfl ho28 H45 rfl rfl ((ho38.rd H40 0 rfl).src Tryd.underlying22 (map_one (F := B8) (fun _ => rfl) _)) (by omega) (by omega)) ?_
  rintro v47 w48 ⟨E46, ho50', H49⟩
  have ho50 : OS 5 1 v47 ((tn (keyB lk) 92 64) ++ (sha ((tn (keyB lk) 54 64) ++ l))).length (((tn (keyB lk) 92 64) ++ (sha ((tn (keyB lk) 54 64) ++ l))).map B8) E46 := by rw [List.length_append, List.map_append]; exact ho50'
  have H51 : St w [] [[(g1, Rw 40 ((List.replicate 32 0).map B8))], E46, E37, [(g18, Rw 40 ((sha ((tn (keyB lk) 54 64) ++ l)).map B8))], E10] w48 := H49.foc 4 rfl rfl
  have H52 : St w [] [E10, [(g1, Rw 40 ((List.replicate 32 0).map B8))], E46, E37, [(g18, Rw 40 ((sha ((tn (keyB lk) 54 64) ++ l)).map B8))]] w48 := H51.foc 4 rfl rfl
  have H53 : St w [] [[(g18, Rw 40 ((sha ((tn (keyB lk) 54 64) ++ l)).map B8))], E10, [(g1, Rw 40 ((List.replicate 32 0).map B8))], E46, E37] w48 := H52.foc 4 rfl rfl
  have H54 : St w [] [[(g18, Rw 40 ((sha ((tn (keyB lk) 54 64) ++ l)).map B8))], E10, [(g1, Rw 40 ((List.replicate 32 0).map B8))]] w48 := H53.take 3 rfl
  refine ⟨H54, ?_⟩
  refine tly (v := v47) rfl (y_assign rfl) ?_
  refine p_nil ?_
  refine n_then ?_
  refine c_seq ?_
  refine c_reg ?_
  refine sy (v := v47) (y_move rfl) ?_
  refine st (ow_call fn23 rfl (rof_c (v47) ((tn (keyB lk) 92 64) ++ (sha ((tn (keyB lk) 54 64) ++ l))) _ ((ho50.rd H49 0 rfl)).nil (by omega)) ⟨rfl, trivial⟩) ?_
  rintro _ w55 ⟨rfl, hB56⟩
  have H57 : St w [] [E46, E37, [(g18, Rw 40 ((sha ((tn (keyB lk) 54 64) ++ l)).map B8))], E10, [(g1, Rw 40 ((List.replicate 32 0).map B8))]] w55 := H49.call hB56
  have H58 : St w [] [[(g1, Rw 40 ((List.replicate 32 0).map B8))], E46, E37, [(g18, Rw 40 ((sha ((tn (keyB lk) 54 64) ++ l)).map B8))], E10] w55 := H57.foc 4 rfl rfl
  refine s0 (ow_storeW (us := (sha ((tn (keyB lk) 92 64) ++ (sha ((tn (keyB lk) 54 64) ++ l)))).map B8) H58 sz40 ((List.length_map _).trans (sha_length _)) rfl rfl (map_one (F := B8) (fun _ => rfl) _) ((List.length_map _).trans List.length_replicate)) ?_
  rintro _ w59 H60'
  have H60 : St w [] [[(g1, Rw 40 ((sha ((tn (keyB lk) 92 64) ++ (sha ((tn (keyB lk) 54 64) ++ l)))).map B8))], E46, E37, [(g18, Rw 40 ((sha ((tn (keyB lk) 54 64) ++ l)).map B8))], E10] w59 := H60'
  refine c_nil ?_
  refine n_then ?_
  refine wp_ret ?_
  refine e_r1 Tryd.results15 (rv_b H60 (i := 0) rfl ag40 sz40 ((List.length_map _).trans (sha_length _)) rfl) ?_
  exact ⟨_, rfl, rfl, H60.below⟩

end Go.Proofs.YtdcmbcjkdhdohaaDoor
