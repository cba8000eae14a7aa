/- The walk of SealBack. -/
import Derived.Test.YtdcmbcjkdhdohaaOpen1
import Derived.Test.YtdcmbcjkdhdohaaWide
namespace Go.Proofs.Ytdcmbcjkdhdohaa
open Go Go.RowKit
set_option linter.unusedSimpArgs false
set_option linter.unusedVariables false
attribute [local irreducible] wpList wpP Code.wp

theorem sealEr_cases (lk : List UInt8) (fr to : Int) (l : List UInt8) : sealEr lk fr to l = 0 ∨ sealEr lk fr to l = 1 ∨ sealEr lk fr to l = 4 := by
  unfold sealEr; split
  · split
    · exact .inr (.inr rfl)
    · exact .inl rfl
  · exact .inr (.inl rfl)
theorem sealEr_zero {lk : List UInt8} {fr to : Int} {l : List UInt8} (h : sealEr lk fr to l = 0) : sealOk lk fr to ∧ l.length ≤ 2097152 := by
  unfold sealEr at h
  split at h
  · split at h
    · cases h
    · exact ⟨by assumption, by omega⟩
  · cases h
theorem sealL_no {lk : List UInt8} {fr to : Int} {l : List UInt8} (h : sealEr lk fr to l ≠ 0) : (sealL lk fr to l).length = 0 := by
  unfold sealL
  split
  · rename_i h2
    exact absurd (by unfold sealEr; rw [if_pos h2.1, if_neg (by omega)]) h
  · rfl
/-- A number counted round a length. -/
def rndI (i : Int) (n : Nat) : Nat := (i % (n : Int)).toNat
theorem rndI_lt (i : Int) {n : Nat} (h : 0 < n) : rndI i n < n := by
  have h1 := Int.emod_lt_of_pos i (show (0 : Int) < n by omega)
  have h2 := Int.emod_nonneg i (show (n : Int) ≠ 0 by omega)
  unfold rndI; omega
theorem tmod_b (i : Int) {n : Nat} (h : 0 < n) : (i.tmod n = i % n ∨ i.tmod n = i % n - n) ∧ 0 ≤ i % (n : Int) ∧ i % (n : Int) < n ∧ -(n : Int) < i.tmod n ∧ i.tmod n < n := by
  have h1 := Int.emod_lt_of_pos i (show (0 : Int) < n by omega)
  have h2 := Int.emod_nonneg i (show (n : Int) ≠ 0 by omega)
  have h3 := Int.tmod_eq_emod (a := i) (b := (n : Int))
  have h4 : -(n : Int) < i.tmod n := by
    have := Int.lt_tmod_of_pos i (show (0 : Int) < n by omega)
    omega
  split at h3
  · exact ⟨.inl (by omega), h2, h1, h4, by omega⟩
  · exact ⟨.inr (by omega), h2, h1, h4, by omega⟩
theorem xor_ne {a y : UInt8} (h : y ≠ 0) : a ^^^ y ≠ a := by
  intro e
  apply h
  have : a ^^^ (a ^^^ y) = a ^^^ a := by rw [e]
  rwa [← UInt8.xor_assoc, UInt8.xor_self, UInt8.zero_xor] at this
theorem y_ne {lk b : List UInt8} {n : Nat} {y : UInt8} (hb : opE lk b = none) (h : ¬ opE lk (b.set n (b.getD n 0 ^^^ y)) = none) : y ≠ 0 := by
  rintro rfl
  apply h
  rw [UInt8.xor_zero]
  by_cases hn : n < b.length
  · rw [List.getD_eq_getElem?_getD, List.getElem?_eq_getElem hn, Option.getD_some, List.set_getElem_self]; exact hb
  · rw [List.set_eq_of_length_le (by omega)]; exact hb

theorem round_c (i : Int) (n : Nat) (w : World) (hn : 0 < n) (hn2 : n ≤ 281474976710656) :
    Calls Try.prog 70 (([I (i), I ((n : Nat) : Int)] : List Value).toArray) w (fun e w' => ∃ v, e = .returned v ∧ v = I ((rndI i n : Nat) : Int) ∧ Below w.heap.size w w') := by
  obtain ⟨ht1, ht2, ht3, ht4, ht5⟩ := tmod_b i hn
  refine calls_mk Try.func70 rfl 15 Try.ntmps70 rfl ?_
  have H0 : St w [] [] w := St.refl w
  refine c_seq ?_
  refine c_reg ?_
  refine sy (v := I ((0 : Nat) : Int)) (y_assign (v := I ((0 : Nat) : Int)) rfl) ?_
  refine c_nil ?_
  refine n_then ?_
  refine c_seq ?_
  refine c_reg ?_
  refine sy (v := I (i)) (y_move rfl) ?_
  refine sy (v := I ((n : Nat) : Int)) (y_move rfl) ?_
  refine sy (v := I (i.tmod (n : Int))) (y_tmod (i := i) (j := (n : Int)) rfl rfl (by omega)) ?_
  refine sy (v := I (i.tmod (n : Int))) (y_assign rfl) ?_
  refine c_nil ?_
  refine n_then ?_
  refine c_seq ?_
  refine c_seq ?_
  refine c_reg ?_
  refine sy (v := I (i.tmod (n : Int))) (y_move rfl) ?_
  refine sy (v := .bool (decide ((i.tmod (n : Int)) < ((0 : Nat) : Int)))) (y_lss (i := (i.tmod (n : Int))) (j := ((0 : Nat) : Int)) rfl rfl) ?_
  refine c_nil ?_
  refine n_then ?_
  refine c_if rfl (fun hc1 => ?_) (fun hc1 => ?_)
  · skip
    refine c_reg ?_
    refine sy (v := I (i.tmod (n : Int))) (y_move rfl) ?_
    refine sy (v := I ((n : Nat) : Int)) (y_move rfl) ?_
    refine sy (v := I ((i.tmod (n : Int)) + ((n : Nat) : Int))) (y_add (i := (i.tmod (n : Int))) (j := ((n : Nat) : Int)) rfl rfl (by omega)) ?_
    refine sy (v := I ((i.tmod (n : Int)) + ((n : Nat) : Int))) (y_assign rfl) ?_
    refine c_nil ?_
    refine n_then ?_
    refine c_seq ?_
    refine c_reg ?_
    refine sy (v := I ((i.tmod (n : Int)) + ((n : Nat) : Int))) (y_move rfl) ?_
    refine sy (v := I ((i.tmod (n : Int)) + ((n : Nat) : Int))) (y_assign rfl) ?_
    refine c_nil ?_
    refine n_then ?_
    refine wp_ret ?_
    refine e_r1 Try.results70 (rv_t rfl) ?_
    exact ⟨_, rfl, congrArg I (by unfold rndI; omega), H0.below⟩
  · skip
    refine wp_skip ?_
    refine n_then ?_
    refine c_seq ?_
    refine c_reg ?_
    refine sy (v := I (i.tmod (n : Int))) (y_move rfl) ?_
    refine sy (v := I (i.tmod (n : Int))) (y_assign rfl) ?_
    refine c_nil ?_
    refine n_then ?_
    refine wp_ret ?_
    refine e_r1 Try.results70 (rv_t rfl) ?_
    exact ⟨_, rfl, congrArg I (by unfold rndI; omega), H0.below⟩

set_option maxHeartbeats 4000000 in
set_option maxRecDepth 20000 in
theorem sealBack_c (v0 bv v5 : Value) (lk : List UInt8) (fr to : Int) (l m : List UInt8) (z2 z4 : Int) (y : UInt8) (w : World) (hK : Rd [] w 1 v0 lk.length (lk.map B8)) (hR : Rd [] w 1 bv l.length (l.map B8)) (hM : Rd [] w 1 v5 m.length (m.map B8)) (hlk : lk.length ≤ 140737488351232) (hl : l.length ≤ 140737488351232) (hm : m.length ≤ 140737488351232) :
    Calls Try.prog 14 (([v0, .agg ([I fr, I to, bv]).toArray, I (z2), B8 (y), I (z4), v5] : List Value).toArray) w (fun e w' => ∃ v, e = .returned v ∧ v = .bool true ∧ Below w.heap.size w w') := by
  refine calls_mk Try.func14 rfl 189 Try.ntmps14 rfl ?_
  have H0 : St w [] [] w := St.refl w
  refine c_seq ?_
  refine c_reg ?_
  refine st (ow_box (l := [I (fr), I (to), bv]) H0 rfl rfl) ?_
  rintro _ w2 ⟨g1, rfl, H3⟩
  refine sy (v := .bool (false)) (y_assign (v := .bool (false)) rfl) ?_
  refine c_nil ?_
  refine n_then ?_
  refine c_seq ?_
  refine c_reg ?_
  refine st (ow_call fn21 rfl (fixed_c _) trivial) ?_
  rintro _ w4 ⟨rfl, hB5⟩
  have H6 : St w [] [[(g1, Rw 31 ([I (fr), I (to), bv]))]] w4 := H3.call hB5
  refine sy (v := .bool (true)) (y_assign rfl) ?_
  refine c_nil ?_
  refine n_then ?_
  refine c_seq ?_
  refine c_reg ?_
  refine sy (v := v0) (y_move rfl) ?_
  refine sy (v := .agg ([I fr, I to, bv]).toArray) (y_loadA (us := [I (fr), I (to), bv]) ag31 sz31 rfl rfl (fun j u hu => (H6.cell 0 rfl (by rw [Nat.zero_add]; exact hu)))) ?_
  refine st (ow_call fn28 rfl (seal_c (v0) (bv) (lk) (fr) (to) (l) _ ((hK.st H6)).nil ((hR.st H6)).nil (by first | omega | (simp only [List.length_take]; omega))) ⟨rfl, rfl, trivial⟩) ?_
  rintro _ w8 ⟨v7, E9, rfl, ho10, H11⟩
  have H12 : St w [] [E9, [(g1, Rw 31 ([I (fr), I (to), bv]))]] w8 := H6.app H11
  refine sy (v := .tuple #[v7, I ((sealEr lk fr to l : Nat) : Int)]) (y_move rfl) ?_
  refine sy (v := v7) (y_extract (i := 0) rfl rfl) ?_
  refine sy (v := I ((sealEr lk fr to l : Nat) : Int)) (y_extract (i := 1) rfl rfl) ?_
  refine sy (v := v7) (y_assign rfl) ?_
  refine sy (v := I ((sealEr lk fr to l : Nat) : Int)) (y_assign rfl) ?_
  refine c_nil ?_
  refine n_then ?_
  refine c_seq ?_
  refine c_seq ?_
  refine c_reg ?_
  refine sy (v := .bool (true)) (y_move rfl) ?_
  refine sy (v := .bool (false)) (y_not (p := true) rfl) ?_
  refine sy (v := .bool (false)) (y_move rfl) ?_
  refine gsy (v := I ((sealEr lk fr to l : Nat) : Int)) (gv_of (t := 38) rfl rfl rfl) (rfl) (y_move rfl) ?_
  refine gsy (v := .bool (decide ((sealEr lk fr to l) ≠ 0))) (gv_of (t := 38) rfl rfl rfl) (rfl) (n_neq (a := sealEr lk fr to l) (b := 0) rfl rfl) ?_
  refine sy (v := .bool (decide ((sealEr lk fr to l) ≠ 0))) (y_pickF rfl (rfl) rfl) ?_
  refine c_nil ?_
  refine n_then ?_
  refine c_if rfl (fun hc13 => ?_) (fun hc13 => ?_)
  · skip
    refine c_seq ?_
    refine c_reg ?_
    refine sy (v := .bool (true)) (y_move rfl) ?_
    refine sy (v := .bool (true)) (y_move rfl) ?_
    refine gsy (v := v7) (gv_of (t := 43) rfl rfl rfl) (rfl) (y_move rfl) ?_
    refine gsy (v := I (((sealL lk fr to l).length : Nat) : Int)) (gv_of (t := 43) rfl rfl rfl) (rfl) (y_lenR Try.underlying23 (ho10.rd H12 0 rfl) rfl) ?_
    refine gsy (v := .bool (decide (((sealL lk fr to l).length) = 0))) (gv_of (t := 43) rfl rfl rfl) (rfl) (n_eql (a := (sealL lk fr to l).length) (b := 0) rfl rfl) ?_
    refine sy (v := .bool (decide (((sealL lk fr to l).length) = 0))) (y_pickT rfl (rfl) rfl) ?_
    refine sy (v := .bool (decide (((sealL lk fr to l).length) = 0))) (y_move rfl) ?_
    have hq14 : ((sealL lk fr to l).length) = 0 := (sealL_no hc13)
    refine gsy (v := I ((sealEr lk fr to l : Nat) : Int)) (gv_of (t := 48) rfl rfl rfl) (decide_eq_true hq14) (y_move rfl) ?_
    refine gsy (v := .bool (decide ((sealEr lk fr to l) = 1))) (gv_of (t := 48) rfl rfl rfl) (decide_eq_true hq14) (n_eql (a := sealEr lk fr to l) (b := 1) rfl rfl) ?_
    refine gsy (v := .bool (decide ((sealEr lk fr to l) = 1))) (gv_of (t := 48) rfl rfl rfl) (decide_eq_true hq14) (y_move rfl) ?_
    by_cases hp15 : (sealEr lk fr to l) = 1
    · skip
      refine gno (gv_of (t := 51) rfl rfl rfl) (decide_eq_true hp15) ?_
      refine gno (gv_of (t := 51) rfl rfl rfl) (decide_eq_true hp15) ?_
      refine gsy (v := .bool (true)) (gv_of (t := 48) rfl rfl rfl) (decide_eq_true hq14) (y_pickT (v := .bool (true)) rfl (decide_eq_true hp15) rfl) ?_
      refine sy (v := .bool (true)) (y_pickT rfl (decide_eq_true hq14) rfl) ?_
      refine sy (v := .bool (true)) (y_assign rfl) ?_
      refine c_nil ?_
      refine n_then ?_
      refine wp_ret ?_
      refine r_then ?_
      refine e_r1 Try.results14 (rv_t rfl) ?_
      exact ⟨_, rfl, rfl, H12.below⟩
    · skip
      refine gsy (v := I ((sealEr lk fr to l : Nat) : Int)) (gv_of (t := 51) rfl rfl rfl) (decide_eq_false hp15) (y_move rfl) ?_
      refine gsy (v := .bool (decide ((sealEr lk fr to l) = 4))) (gv_of (t := 51) rfl rfl rfl) (decide_eq_false hp15) (n_eql (a := sealEr lk fr to l) (b := 4) rfl rfl) ?_
      refine gsy (v := .bool (decide ((sealEr lk fr to l) = 4))) (gv_of (t := 48) rfl rfl rfl) (decide_eq_true hq14) (y_pickF rfl (decide_eq_false hp15) rfl) ?_
      refine sy (v := .bool (decide ((sealEr lk fr to l) = 4))) (y_pickT rfl (decide_eq_true hq14) rfl) ?_
      refine sy (v := .bool (decide ((sealEr lk fr to l) = 4))) (y_assign rfl) ?_
      refine c_nil ?_
      refine n_then ?_
      refine wp_ret ?_
      refine r_then ?_
      refine e_r1 Try.results14 (rv_t rfl) ?_
      have hq16 : (sealEr lk fr to l) = 4 := (by rcases sealEr_cases lk fr to l with h | h | h <;> first | omega | exact h)
      have hz : (.bool (decide ((sealEr lk fr to l) = 4)) : Value) = .bool true := congrArg Value.bool (decide_eq_true hq16)
      exact ⟨_, rfl, hz, H12.below⟩
  · skip
    obtain ⟨hok, hl2⟩ := sealEr_zero (Decidable.not_not.1 hc13)
    have hbl := sealL_len hok hl2
    have hb0 := back_none hok hl2
    have hlk2 := hok.1
    have hr2 := rndI_lt z2 (n := (sealL lk fr to l).length) (by omega)
    have hr4 := rndI_lt z4 (n := (sealL lk fr to l).length) (by omega)
    refine wp_skip ?_
    refine n_then ?_
    refine c_seq ?_
    refine c_seq ?_
    refine c_reg ?_
    refine sy (v := v0) (y_move rfl) ?_
    refine sy (v := I ((lk.length : Nat) : Int)) (y_lenR Try.underlying23 (hK.st H12) rfl) ?_
    refine sy (v := .bool (decide (lk.length ≠ 32))) (n_neq (a := lk.length) (b := 32) rfl rfl) ?_
    refine sy (v := .bool (decide (lk.length ≠ 32))) (y_move rfl) ?_
    have hq17 : ¬ (lk.length ≠ 32) := (by have := hok.1; omega)
    refine gsy (v := v7) (gv_of (t := 59) rfl rfl rfl) (decide_eq_false hq17) (y_move rfl) ?_
    refine gsy (v := I (((sealL lk fr to l).length : Nat) : Int)) (gv_of (t := 59) rfl rfl rfl) (decide_eq_false hq17) (y_lenR Try.underlying23 (ho10.rd H12 0 rfl) rfl) ?_
    refine gsy (v := Ad (bs g1) (0 + 2)) (gv_of (t := 59) rfl rfl rfl) (decide_eq_false hq17) (y_fld Try.underlying31 rfl rfl sz23 (by decide) rfl) ?_
    refine gsy (v := bv) (gv_of (t := 59) rfl rfl rfl) (decide_eq_false hq17) (y_load sc23 rfl (H12.cell 1 rfl rfl)) ?_
    refine gsy (v := I ((l.length : Nat) : Int)) (gv_of (t := 59) rfl rfl rfl) (decide_eq_false hq17) (y_lenR Try.underlying23 (hR.st H12) rfl) ?_
    refine gsy (v := I ((l.length + 42 : Nat) : Int)) (gv_of (t := 59) rfl rfl rfl) (decide_eq_false hq17) (n_add (a := l.length) (b := 42) rfl rfl (by omega)) ?_
    refine gsy (v := .bool (decide (((sealL lk fr to l).length) ≠ (l.length + 42)))) (gv_of (t := 59) rfl rfl rfl) (decide_eq_false hq17) (n_neq (a := (sealL lk fr to l).length) (b := l.length + 42) rfl rfl) ?_
    refine sy (v := .bool (decide (((sealL lk fr to l).length) ≠ (l.length + 42)))) (y_pickF rfl (decide_eq_false hq17) rfl) ?_
    refine c_nil ?_
    refine n_then ?_
    have hq18 : ¬ (((sealL lk fr to l).length) ≠ (l.length + 42)) := (by omega)
    refine c_f rfl (decide_eq_false hq18) ?_
    refine wp_skip ?_
    refine n_then ?_
    refine c_seq ?_
    refine c_reg ?_
    refine sy (v := v0) (y_move rfl) ?_
    refine sy (v := v7) (y_move rfl) ?_
    refine st (ow_call fn69 rfl (open_ok (v0) (v7) (lk) (sealL lk fr to l) _ ((hK.st H12)).nil ((ho10.rd H12 0 rfl)).nil (by first | omega | (simp only [List.length_append, List.length_cons, List.length_nil, List.length_take, List.length_drop, hmac_length, sha_length, List.length_replicate]; omega)) (by first | omega | (simp only [List.length_append, List.length_cons, List.length_nil, List.length_take, List.length_drop, hmac_length, sha_length, List.length_replicate]; omega)) hb0) ⟨rfl, rfl, trivial⟩) ?_
    rintro _ w19 ⟨v20, E21, rfl, ho22, H23⟩
    have H24 : St w [] [E21, E9, [(g1, Rw 31 ([I (fr), I (to), bv]))]] w19 := H12.app H23
    refine sy (v := .tuple #[.agg ([I ((opF lk (sealL lk fr to l) : Nat) : Int), I ((opT lk (sealL lk fr to l) : Nat) : Int), v20]).toArray, .nilIface]) (y_move rfl) ?_
    refine sy (v := .agg ([I ((opF lk (sealL lk fr to l) : Nat) : Int), I ((opT lk (sealL lk fr to l) : Nat) : Int), v20]).toArray) (y_extract (i := 0) rfl rfl) ?_
    refine sy (v := .nilIface) (y_extract (i := 1) rfl rfl) ?_
    refine st (ow_alloc (l := [I ((0 : Nat) : Int), I ((0 : Nat) : Int), .slice none 0 0]) H24 zr31 rfl) ?_
    rintro _ w26 ⟨g25, rfl, H27⟩
    refine s0 (ow_storeW (us := [I ((opF lk (sealL lk fr to l) : Nat) : Int), I ((opT lk (sealL lk fr to l) : Nat) : Int), v20]) H27 sz31 rfl rfl rfl (by intro u hu; simp only [List.mem_cons, List.not_mem_nil, or_false] at hu; rcases hu with rfl | rfl | rfl <;> first | rfl | exact Rd.one (ho22.rd H27 1 rfl)) (by simp [*])) ?_
    rintro _ w28 H29'
    have H29 : St w [] [[(g25, Rw 31 ([I ((opF lk (sealL lk fr to l) : Nat) : Int), I ((opT lk (sealL lk fr to l) : Nat) : Int), v20]))], E21, E9, [(g1, Rw 31 ([I (fr), I (to), bv]))]] w28 := H29'
    refine sy (v := .nilIface) (y_assign rfl) ?_
    refine c_nil ?_
    refine n_then ?_
    refine c_seq ?_
    refine c_reg ?_
    refine sy (v := Ad (bs g25) (0 + 2)) (y_fld Try.underlying31 rfl rfl sz23 (by decide) rfl) ?_
    refine sy (v := v20) (y_load sc23 rfl (H29.cell 0 rfl rfl)) ?_
    refine sy (v := Ad (bs g1) (0 + 2)) (y_fld Try.underlying31 rfl rfl sz23 (by decide) rfl) ?_
    refine sy (v := bv) (y_load sc23 rfl (H29.cell 3 rfl rfl)) ?_
    refine st (ow_call fn29 rfl (same_c (v20) (bv) (opB lk (sealL lk fr to l)) (l) _ ((ho22.rd H29 1 rfl)).nil ((hR.st H29)).nil) ⟨rfl, rfl, trivial⟩) ?_
    rintro _ w30 ⟨rfl, hB31⟩
    have H32 : St w [] [[(g25, Rw 31 ([I ((opF lk (sealL lk fr to l) : Nat) : Int), I ((opT lk (sealL lk fr to l) : Nat) : Int), v20]))], E21, E9, [(g1, Rw 31 ([I (fr), I (to), bv]))]] w30 := H29.call hB31
    refine sy (v := .bool (decide ((opB lk (sealL lk fr to l)) = l))) (y_assign rfl) ?_
    refine c_nil ?_
    refine n_then ?_
    refine c_seq ?_
    refine c_seq ?_
    refine c_reg ?_
    refine sy (v := .nilIface) (y_move rfl) ?_
    refine sy (v := .bool (false)) (y_neqNil0 Try.underlying88 rfl) ?_
    refine sy (v := .bool (false)) (y_move rfl) ?_
    refine gsy (v := .bool (decide ((opB lk (sealL lk fr to l)) = l))) (gv_of (t := 81) rfl rfl rfl) (rfl) (y_move rfl) ?_
    refine gsy (v := .bool (decide (¬ ((opB lk (sealL lk fr to l)) = l)))) (gv_of (t := 81) rfl rfl rfl) (rfl) (y_notP rfl) ?_
    refine sy (v := .bool (decide (¬ ((opB lk (sealL lk fr to l)) = l)))) (y_pickF rfl (rfl) rfl) ?_
    refine sy (v := .bool (decide (¬ ((opB lk (sealL lk fr to l)) = l)))) (y_move rfl) ?_
    have hq33 : (opB lk (sealL lk fr to l)) = l := (back_b hok hl2)
    refine gsy (v := Ad (bs g25) (0 + 0)) (gv_of (t := 85) rfl rfl rfl) (decide_eq_false (not_not_intro hq33)) (y_fld Try.underlying31 rfl rfl sz3 (by decide) rfl) ?_
    refine gsy (v := I ((opF lk (sealL lk fr to l) : Nat) : Int)) (gv_of (t := 85) rfl rfl rfl) (decide_eq_false (not_not_intro hq33)) (y_load sc3 rfl (H32.cell 0 rfl rfl)) ?_
    refine gsy (v := Ad (bs g1) (0 + 0)) (gv_of (t := 85) rfl rfl rfl) (decide_eq_false (not_not_intro hq33)) (y_fld Try.underlying31 rfl rfl sz3 (by decide) rfl) ?_
    refine gsy (v := I (fr)) (gv_of (t := 85) rfl rfl rfl) (decide_eq_false (not_not_intro hq33)) (y_load sc3 rfl (H32.cell 3 rfl rfl)) ?_
    refine gsy (v := .bool (decide (((opF lk (sealL lk fr to l) : Nat) : Int) ≠ fr))) (gv_of (t := 85) rfl rfl rfl) (decide_eq_false (not_not_intro hq33)) (y_neqK (i := ((opF lk (sealL lk fr to l) : Nat) : Int)) (j := fr) rfl rfl) ?_
    refine sy (v := .bool (decide (((opF lk (sealL lk fr to l) : Nat) : Int) ≠ fr))) (y_pickF rfl (decide_eq_false (not_not_intro hq33)) rfl) ?_
    refine sy (v := .bool (decide (((opF lk (sealL lk fr to l) : Nat) : Int) ≠ fr))) (y_move rfl) ?_
    have hq34 : ¬ (((opF lk (sealL lk fr to l) : Nat) : Int) ≠ fr) := (not_not_intro (back_f hok hl2))
    refine gsy (v := Ad (bs g25) (0 + 1)) (gv_of (t := 92) rfl rfl rfl) (decide_eq_false hq34) (y_fld Try.underlying31 rfl rfl sz3 (by decide) rfl) ?_
    refine gsy (v := I ((opT lk (sealL lk fr to l) : Nat) : Int)) (gv_of (t := 92) rfl rfl rfl) (decide_eq_false hq34) (y_load sc3 rfl (H32.cell 0 rfl rfl)) ?_
    refine gsy (v := Ad (bs g1) (0 + 1)) (gv_of (t := 92) rfl rfl rfl) (decide_eq_false hq34) (y_fld Try.underlying31 rfl rfl sz3 (by decide) rfl) ?_
    refine gsy (v := I (to)) (gv_of (t := 92) rfl rfl rfl) (decide_eq_false hq34) (y_load sc3 rfl (H32.cell 3 rfl rfl)) ?_
    refine gsy (v := .bool (decide (((opT lk (sealL lk fr to l) : Nat) : Int) ≠ to))) (gv_of (t := 92) rfl rfl rfl) (decide_eq_false hq34) (y_neqK (i := ((opT lk (sealL lk fr to l) : Nat) : Int)) (j := to) rfl rfl) ?_
    refine sy (v := .bool (decide (((opT lk (sealL lk fr to l) : Nat) : Int) ≠ to))) (y_pickF rfl (decide_eq_false hq34) rfl) ?_
    refine c_nil ?_
    refine n_then ?_
    have hq35 : ¬ (((opT lk (sealL lk fr to l) : Nat) : Int) ≠ to) := (not_not_intro (back_t hok hl2))
    refine c_f rfl (decide_eq_false hq35) ?_
    refine wp_skip ?_
    refine n_then ?_
    refine c_seq ?_
    refine c_reg ?_
    refine sy (v := I (z2)) (y_move rfl) ?_
    refine sy (v := v7) (y_move rfl) ?_
    refine sy (v := I (((sealL lk fr to l).length : Nat) : Int)) (y_lenR Try.underlying23 (ho10.rd H32 2 rfl) rfl) ?_
    refine st (ow_call fn70 rfl (round_c (z2) ((sealL lk fr to l).length) _ (by omega) (by omega)) ⟨rfl, rfl, trivial⟩) ?_
    rintro _ w36 ⟨rfl, hB37⟩
    have H38 : St w [] [[(g25, Rw 31 ([I ((opF lk (sealL lk fr to l) : Nat) : Int), I ((opT lk (sealL lk fr to l) : Nat) : Int), v20]))], E21, E9, [(g1, Rw 31 ([I (fr), I (to), bv]))]] w36 := H32.call hB37
    refine sy (v := I ((rndI z2 ((sealL lk fr to l).length) : Nat) : Int)) (y_assign rfl) ?_
    refine c_nil ?_
    refine n_then ?_
    refine c_seq ?_
    refine c_reg ?_
    refine st (ow_buildSlice (pv := []) (us := []) Try.underlying23 sz5 zr5 H38 trivial (by decide) fill0) ?_
    rintro _ w40 ⟨g39, rfl, H41⟩
    refine sy (v := v7) (y_move rfl) ?_
    refine st (ow_append Try.underlying23 sz5 zr5 bt5 rfl (os_lit (k := 0) rfl (by simp [maxLen])) H41 rfl rfl ((ho10.rd H41 3 rfl).src Try.underlying23 (map_one (F := B8) (fun _ => rfl) _)) (by first | omega | (simp only [List.length_append, List.length_cons, List.length_nil, List.length_take, List.length_drop, hmac_length, sha_length, List.length_replicate]; omega)) (by first | omega | (simp only [List.length_append, List.length_cons, List.length_nil, List.length_take, List.length_drop, hmac_length, sha_length, List.length_replicate]; omega))) ?_
    rintro v43 w44 ⟨E42, ho46', H45⟩
    have ho46 : OS 5 1 v43 (sealL lk fr to l).length ((sealL lk fr to l).map B8) E42 := by first | (have h := ho46'; rw [Nat.zero_add, List.nil_append] at h; exact h) | simpa using ho46'
    refine sy (v := v43) (y_assign rfl) ?_
    refine c_nil ?_
    refine n_then ?_
    refine c_seq ?_
    refine c_reg ?_
    refine sy (v := v43) (y_move rfl) ?_
    refine sy (v := I ((rndI z2 ((sealL lk fr to l).length) : Nat) : Int)) (y_move rfl) ?_
    refine sy (v := Ad (sp (v43)) ((rndI z2 ((sealL lk fr to l).length)) * 1)) (y_ixR (m := rndI z2 ((sealL lk fr to l).length)) Try.underlying23 sz5 (ho46.rd H45 0 rfl) (by decide) rfl rfl rfl (by omega)) ?_
    refine sy (v := B8 ((sealL lk fr to l).getD (rndI z2 ((sealL lk fr to l).length)) 0)) (y_load sc5 rfl ((ho46.rd H45 0 rfl).cell _ _ (by rw [Nat.mul_one]; exact map_get B8 (l := sealL lk fr to l) (k := rndI z2 ((sealL lk fr to l).length)) 0 (by omega)))) ?_
    refine sy (v := B8 (y)) (y_move rfl) ?_
    refine sy (v := B8 (((sealL lk fr to l).getD (rndI z2 ((sealL lk fr to l).length)) 0) ^^^ y)) (y_xor8 (a := (sealL lk fr to l).getD (rndI z2 ((sealL lk fr to l).length)) 0) (b := y) rfl rfl) ?_
    refine sy (v := Ad (sp (v43)) ((rndI z2 ((sealL lk fr to l).length)) * 1)) (y_ixR (m := rndI z2 ((sealL lk fr to l).length)) Try.underlying23 sz5 (ho46.rd H45 0 rfl) (by decide) rfl rfl rfl (by omega)) ?_
    refine s0 (ow_storeO8 (l := sealL lk fr to l) (i := rndI z2 (sealL lk fr to l).length) ho46 H45 sz5 rfl rfl (by rw [Nat.mul_one]) (by have := rndI_lt z2 (n := (sealL lk fr to l).length) (by omega); omega)) ?_
    rintro _ w48 ⟨E47, ho50, H49⟩
    have hcl51 : ((sealL lk fr to l).set (rndI z2 (sealL lk fr to l).length) ((sealL lk fr to l).getD (rndI z2 (sealL lk fr to l).length) 0 ^^^ y)).length = l.length + 42 := by rw [List.length_set]; exact hbl
    refine c_nil ?_
    refine n_then ?_
    refine c_seq ?_
    refine c_reg ?_
    refine sy (v := v0) (y_move rfl) ?_
    refine sy (v := v43) (y_move rfl) ?_
    by_cases hp52 : opE lk ((sealL lk fr to l).set (rndI z2 (sealL lk fr to l).length) ((sealL lk fr to l).getD (rndI z2 (sealL lk fr to l).length) 0 ^^^ y)) = none
    · skip
      refine st (ow_call fn69 rfl (open_ok (v0) (v43) (lk) ((sealL lk fr to l).set (rndI z2 (sealL lk fr to l).length) ((sealL lk fr to l).getD (rndI z2 (sealL lk fr to l).length) 0 ^^^ y)) _ ((hK.st H49)).nil ((ho50.rd H49 0 rfl)).nil (by first | omega | (simp only [List.length_append, List.length_cons, List.length_nil, List.length_take, List.length_drop, hmac_length, sha_length, List.length_replicate]; omega)) (by first | omega | (simp only [List.length_append, List.length_cons, List.length_nil, List.length_take, List.length_drop, hmac_length, sha_length, List.length_replicate]; omega)) hp52) ⟨rfl, rfl, trivial⟩) ?_
      rintro _ w53 ⟨v54, E55, rfl, ho56, H57⟩
      have H58 : St w [] [E55, E47, [(g25, Rw 31 ([I ((opF lk (sealL lk fr to l) : Nat) : Int), I ((opT lk (sealL lk fr to l) : Nat) : Int), v20]))], E21, E9, [(g1, Rw 31 ([I (fr), I (to), bv]))]] w53 := H49.app H57
      refine sy (v := .tuple #[.agg ([I ((opF lk ((sealL lk fr to l).set (rndI z2 (sealL lk fr to l).length) ((sealL lk fr to l).getD (rndI z2 (sealL lk fr to l).length) 0 ^^^ y)) : Nat) : Int), I ((opT lk ((sealL lk fr to l).set (rndI z2 (sealL lk fr to l).length) ((sealL lk fr to l).getD (rndI z2 (sealL lk fr to l).length) 0 ^^^ y)) : Nat) : Int), v54]).toArray, .nilIface]) (y_move rfl) ?_
      refine sy (v := .agg ([I ((opF lk ((sealL lk fr to l).set (rndI z2 (sealL lk fr to l).length) ((sealL lk fr to l).getD (rndI z2 (sealL lk fr to l).length) 0 ^^^ y)) : Nat) : Int), I ((opT lk ((sealL lk fr to l).set (rndI z2 (sealL lk fr to l).length) ((sealL lk fr to l).getD (rndI z2 (sealL lk fr to l).length) 0 ^^^ y)) : Nat) : Int), v54]).toArray) (y_extract (i := 0) rfl rfl) ?_
      refine sy (v := .nilIface) (y_extract (i := 1) rfl rfl) ?_
      refine st (ow_alloc (l := [I ((0 : Nat) : Int), I ((0 : Nat) : Int), .slice none 0 0]) H58 zr31 rfl) ?_
      rintro _ w60 ⟨g59, rfl, H61⟩
      refine s0 (ow_storeW (us := [I ((opF lk ((sealL lk fr to l).set (rndI z2 (sealL lk fr to l).length) ((sealL lk fr to l).getD (rndI z2 (sealL lk fr to l).length) 0 ^^^ y)) : Nat) : Int), I ((opT lk ((sealL lk fr to l).set (rndI z2 (sealL lk fr to l).length) ((sealL lk fr to l).getD (rndI z2 (sealL lk fr to l).length) 0 ^^^ y)) : Nat) : Int), v54]) H61 sz31 rfl rfl rfl (by intro u hu; simp only [List.mem_cons, List.not_mem_nil, or_false] at hu; rcases hu with rfl | rfl | rfl <;> first | rfl | exact Rd.one (ho56.rd H61 1 rfl)) (by simp [*])) ?_
      rintro _ w62 H63'
      have H63 : St w [] [[(g59, Rw 31 ([I ((opF lk ((sealL lk fr to l).set (rndI z2 (sealL lk fr to l).length) ((sealL lk fr to l).getD (rndI z2 (sealL lk fr to l).length) 0 ^^^ y)) : Nat) : Int), I ((opT lk ((sealL lk fr to l).set (rndI z2 (sealL lk fr to l).length) ((sealL lk fr to l).getD (rndI z2 (sealL lk fr to l).length) 0 ^^^ y)) : Nat) : Int), v54]))], E55, E47, [(g25, Rw 31 ([I ((opF lk (sealL lk fr to l) : Nat) : Int), I ((opT lk (sealL lk fr to l) : Nat) : Int), v20]))], E21, E9, [(g1, Rw 31 ([I (fr), I (to), bv]))]] w62 := H63'
      refine sy (v := .nilIface) (y_assign rfl) ?_
      refine c_nil ?_
      refine n_then ?_
      refine c_seq ?_
      refine c_reg ?_
      refine sy (v := v0) (y_move rfl) ?_
      refine sy (v := v7) (y_move rfl) ?_
      refine sy (v := I (z4)) (y_move rfl) ?_
      refine sy (v := v7) (y_move rfl) ?_
      refine sy (v := I (((sealL lk fr to l).length : Nat) : Int)) (y_lenR Try.underlying23 (ho10.rd H63 5 rfl) rfl) ?_
      refine st (ow_call fn70 rfl (round_c (z4) ((sealL lk fr to l).length) _ (by omega) (by omega)) ⟨rfl, rfl, trivial⟩) ?_
      rintro _ w64 ⟨rfl, hB65⟩
      have H66 : St w [] [[(g59, Rw 31 ([I ((opF lk ((sealL lk fr to l).set (rndI z2 (sealL lk fr to l).length) ((sealL lk fr to l).getD (rndI z2 (sealL lk fr to l).length) 0 ^^^ y)) : Nat) : Int), I ((opT lk ((sealL lk fr to l).set (rndI z2 (sealL lk fr to l).length) ((sealL lk fr to l).getD (rndI z2 (sealL lk fr to l).length) 0 ^^^ y)) : Nat) : Int), v54]))], E55, E47, [(g25, Rw 31 ([I ((opF lk (sealL lk fr to l) : Nat) : Int), I ((opT lk (sealL lk fr to l) : Nat) : Int), v20]))], E21, E9, [(g1, Rw 31 ([I (fr), I (to), bv]))]] w64 := H63.call hB65
      have hL67 : ((sealL lk fr to l).take (rndI z4 ((sealL lk fr to l).length))).length = (rndI z4 ((sealL lk fr to l).length)) := by rw [List.length_take]; omega
      refine sy (v := slv 1 0 (rndI z4 ((sealL lk fr to l).length)) v7) (y_slR (k1 := .i64) (k2 := .i64) (l := 0) (h := rndI z4 ((sealL lk fr to l).length)) Try.underlying23 sz5 (ho10.rd H66 5 rfl) rfl (.inl ⟨rfl, rfl⟩) (.inr ⟨_, rfl, rfl⟩) (by omega) (by omega)) ?_
      have hcut68 : ¬ opE lk ((sealL lk fr to l).take (rndI z4 (sealL lk fr to l).length)) = none := cut_some hb0 (rndI_lt z4 (by omega))
      refine st (ow_call fn69 rfl (open_err (v0) (slv 1 0 (rndI z4 ((sealL lk fr to l).length)) v7) (lk) ((sealL lk fr to l).take (rndI z4 ((sealL lk fr to l).length))) _ ((hK.st H66)).nil ((rdb_pre (ho10.rd H66 5 rfl) (by omega))).nil (by first | omega | (simp only [List.length_append, List.length_cons, List.length_nil, List.length_take, List.length_drop, hmac_length, sha_length, List.length_replicate]; omega)) (by first | omega | (simp only [List.length_append, List.length_cons, List.length_nil, List.length_take, List.length_drop, hmac_length, sha_length, List.length_replicate]; omega)) hcut68) ⟨rfl, rfl, trivial⟩) ?_
      rintro _ w69 ⟨u70, x71, rfl, hB72⟩
      have H73 : St w [] [[(g59, Rw 31 ([I ((opF lk ((sealL lk fr to l).set (rndI z2 (sealL lk fr to l).length) ((sealL lk fr to l).getD (rndI z2 (sealL lk fr to l).length) 0 ^^^ y)) : Nat) : Int), I ((opT lk ((sealL lk fr to l).set (rndI z2 (sealL lk fr to l).length) ((sealL lk fr to l).getD (rndI z2 (sealL lk fr to l).length) 0 ^^^ y)) : Nat) : Int), v54]))], E55, E47, [(g25, Rw 31 ([I ((opF lk (sealL lk fr to l) : Nat) : Int), I ((opT lk (sealL lk fr to l) : Nat) : Int), v20]))], E21, E9, [(g1, Rw 31 ([I (fr), I (to), bv]))]] w69 := H66.call hB72
      refine sy (v := .tuple #[.agg ([I ((0 : Nat) : Int), I ((0 : Nat) : Int), .slice none 0 0]).toArray, .iface u70 x71]) (y_move rfl) ?_
      refine sy (v := .agg ([I ((0 : Nat) : Int), I ((0 : Nat) : Int), .slice none 0 0]).toArray) (y_extract (i := 0) rfl rfl) ?_
      refine sy (v := .iface u70 x71) (y_extract (i := 1) rfl rfl) ?_
      refine st (ow_alloc (l := [I ((0 : Nat) : Int), I ((0 : Nat) : Int), .slice none 0 0]) H73 zr31 rfl) ?_
      rintro _ w75 ⟨g74, rfl, H76⟩
      refine s0 (ow_storeW (us := [I ((0 : Nat) : Int), I ((0 : Nat) : Int), .slice none 0 0]) H76 sz31 rfl rfl rfl (by simp [Value.oneCell']) (by simp [*])) ?_
      rintro _ w77 H78'
      have H78 : St w [] [[(g74, Rw 31 ([I ((0 : Nat) : Int), I ((0 : Nat) : Int), .slice none 0 0]))], [(g59, Rw 31 ([I ((opF lk ((sealL lk fr to l).set (rndI z2 (sealL lk fr to l).length) ((sealL lk fr to l).getD (rndI z2 (sealL lk fr to l).length) 0 ^^^ y)) : Nat) : Int), I ((opT lk ((sealL lk fr to l).set (rndI z2 (sealL lk fr to l).length) ((sealL lk fr to l).getD (rndI z2 (sealL lk fr to l).length) 0 ^^^ y)) : Nat) : Int), v54]))], E55, E47, [(g25, Rw 31 ([I ((opF lk (sealL lk fr to l) : Nat) : Int), I ((opT lk (sealL lk fr to l) : Nat) : Int), v20]))], E21, E9, [(g1, Rw 31 ([I (fr), I (to), bv]))]] w77 := H78'
      refine sy (v := .iface u70 x71) (y_assign rfl) ?_
      refine c_nil ?_
      refine n_then ?_
      refine c_seq ?_
      refine c_reg ?_
      refine st (ow_buildSlice (pv := []) (us := []) Try.underlying23 sz5 zr5 H78 trivial (by decide) fill0) ?_
      rintro _ w80 ⟨g79, rfl, H81⟩
      refine sy (v := v7) (y_move rfl) ?_
      refine st (ow_append Try.underlying23 sz5 zr5 bt5 rfl (os_lit (k := 0) rfl (by simp [maxLen])) H81 rfl rfl ((ho10.rd H81 7 rfl).src Try.underlying23 (map_one (F := B8) (fun _ => rfl) _)) (by first | omega | (simp only [List.length_append, List.length_cons, List.length_nil, List.length_take, List.length_drop, hmac_length, sha_length, List.length_replicate]; omega)) (by first | omega | (simp only [List.length_append, List.length_cons, List.length_nil, List.length_take, List.length_drop, hmac_length, sha_length, List.length_replicate]; omega))) ?_
      rintro v83 w84 ⟨E82, ho86', H85⟩
      have ho86 : OS 5 1 v83 (sealL lk fr to l).length ((sealL lk fr to l).map B8) E82 := by first | (have h := ho86'; rw [Nat.zero_add, List.nil_append] at h; exact h) | simpa using ho86'
      refine sy (v := v83) (y_assign rfl) ?_
      refine c_nil ?_
      refine n_then ?_
      refine c_seq ?_
      refine c_reg ?_
      refine sy (v := v83) (y_move rfl) ?_
      refine sy (v := v5) (y_move rfl) ?_
      refine st (ow_appendW Try.underlying23 sz5 zr5 bt5 rfl ho86 H85 rfl rfl ((hM.st H85).src Try.underlying23 (map_one (F := B8) (fun _ => rfl) _)) (by first | omega | (simp only [List.length_append, List.length_cons, List.length_nil, List.length_take, List.length_drop, hmac_length, sha_length, List.length_replicate]; omega)) (by first | omega | (simp only [List.length_append, List.length_cons, List.length_nil, List.length_take, List.length_drop, hmac_length, sha_length, List.length_replicate]; omega))) ?_
      rintro v88 w89 ⟨E87, ho91', H90⟩
      have ho91 : OS 5 1 v88 ((sealL lk fr to l) ++ m).length (((sealL lk fr to l) ++ m).map B8) E87 := by rw [List.length_append, List.map_append]; exact ho91'
      refine sy (v := v88) (y_assign rfl) ?_
      refine c_nil ?_
      refine n_then ?_
      refine c_seq ?_
      refine c_reg ?_
      refine sy (v := v0) (y_move rfl) ?_
      refine sy (v := v88) (y_move rfl) ?_
      by_cases hp92 : m = []
      · skip
        have hj93 : opE lk ((sealL lk fr to l) ++ m) = none := (more_iff hb0).2 hp92
        refine st (ow_call fn69 rfl (open_ok (v0) (v88) (lk) ((sealL lk fr to l) ++ m) _ ((hK.st H90)).nil ((ho91.rd H90 0 rfl)).nil (by first | omega | (simp only [List.length_append, List.length_cons, List.length_nil, List.length_take, List.length_drop, hmac_length, sha_length, List.length_replicate]; omega)) (by first | omega | (simp only [List.length_append, List.length_cons, List.length_nil, List.length_take, List.length_drop, hmac_length, sha_length, List.length_replicate]; omega)) hj93) ⟨rfl, rfl, trivial⟩) ?_
        rintro _ w94 ⟨v95, E96, rfl, ho97, H98⟩
        have H99 : St w [] [E96, E87, [(g74, Rw 31 ([I ((0 : Nat) : Int), I ((0 : Nat) : Int), .slice none 0 0]))], [(g59, Rw 31 ([I ((opF lk ((sealL lk fr to l).set (rndI z2 (sealL lk fr to l).length) ((sealL lk fr to l).getD (rndI z2 (sealL lk fr to l).length) 0 ^^^ y)) : Nat) : Int), I ((opT lk ((sealL lk fr to l).set (rndI z2 (sealL lk fr to l).length) ((sealL lk fr to l).getD (rndI z2 (sealL lk fr to l).length) 0 ^^^ y)) : Nat) : Int), v54]))], E55, E47, [(g25, Rw 31 ([I ((opF lk (sealL lk fr to l) : Nat) : Int), I ((opT lk (sealL lk fr to l) : Nat) : Int), v20]))], E21, E9, [(g1, Rw 31 ([I (fr), I (to), bv]))]] w94 := H90.app H98
        refine sy (v := .tuple #[.agg ([I ((opF lk ((sealL lk fr to l) ++ m) : Nat) : Int), I ((opT lk ((sealL lk fr to l) ++ m) : Nat) : Int), v95]).toArray, .nilIface]) (y_move rfl) ?_
        refine sy (v := .agg ([I ((opF lk ((sealL lk fr to l) ++ m) : Nat) : Int), I ((opT lk ((sealL lk fr to l) ++ m) : Nat) : Int), v95]).toArray) (y_extract (i := 0) rfl rfl) ?_
        refine sy (v := .nilIface) (y_extract (i := 1) rfl rfl) ?_
        refine st (ow_alloc (l := [I ((0 : Nat) : Int), I ((0 : Nat) : Int), .slice none 0 0]) H99 zr31 rfl) ?_
        rintro _ w101 ⟨g100, rfl, H102⟩
        refine s0 (ow_storeW (us := [I ((opF lk ((sealL lk fr to l) ++ m) : Nat) : Int), I ((opT lk ((sealL lk fr to l) ++ m) : Nat) : Int), v95]) H102 sz31 rfl rfl rfl (by intro u hu; simp only [List.mem_cons, List.not_mem_nil, or_false] at hu; rcases hu with rfl | rfl | rfl <;> first | rfl | exact Rd.one (ho97.rd H102 1 rfl)) (by simp [*])) ?_
        rintro _ w103 H104'
        have H104 : St w [] [[(g100, Rw 31 ([I ((opF lk ((sealL lk fr to l) ++ m) : Nat) : Int), I ((opT lk ((sealL lk fr to l) ++ m) : Nat) : Int), v95]))], E96, E87, [(g74, Rw 31 ([I ((0 : Nat) : Int), I ((0 : Nat) : Int), .slice none 0 0]))], [(g59, Rw 31 ([I ((opF lk ((sealL lk fr to l).set (rndI z2 (sealL lk fr to l).length) ((sealL lk fr to l).getD (rndI z2 (sealL lk fr to l).length) 0 ^^^ y)) : Nat) : Int), I ((opT lk ((sealL lk fr to l).set (rndI z2 (sealL lk fr to l).length) ((sealL lk fr to l).getD (rndI z2 (sealL lk fr to l).length) 0 ^^^ y)) : Nat) : Int), v54]))], E55, E47, [(g25, Rw 31 ([I ((opF lk (sealL lk fr to l) : Nat) : Int), I ((opT lk (sealL lk fr to l) : Nat) : Int), v20]))], E21, E9, [(g1, Rw 31 ([I (fr), I (to), bv]))]] w103 := H104'
        refine sy (v := .nilIface) (y_assign rfl) ?_
        refine c_nil ?_
        refine n_then ?_
        refine c_seq ?_
        refine c_seq ?_
        refine c_reg ?_
        refine sy (v := .nilIface) (y_move rfl) ?_
        refine sy (v := .bool (true)) (y_eqlNil0 Try.underlying88 rfl) ?_
        refine sy (v := .bool (true)) (y_move rfl) ?_
        refine gsy (v := B8 (y)) (gv_of (t := 144) rfl rfl rfl) (rfl) (y_move rfl) ?_
        refine gsy (v := .bool (decide (y ≠ 0))) (gv_of (t := 144) rfl rfl rfl) (rfl) (y_neq8 (a := y) (b := 0) rfl rfl) ?_
        refine sy (v := .bool (decide (y ≠ 0))) (y_pickT rfl (rfl) rfl) ?_
        refine c_nil ?_
        refine n_then ?_
        refine c_if rfl (fun hc105 => ?_) (fun hc105 => ?_)
        · skip
          refine c_seq ?_
          refine c_reg ?_
          refine sy (v := v0) (y_move rfl) ?_
          refine sy (v := v7) (y_move rfl) ?_
          refine sy (v := v7) (y_move rfl) ?_
          refine sy (v := I (((sealL lk fr to l).length : Nat) : Int)) (y_lenR Try.underlying23 (ho10.rd H104 9 rfl) rfl) ?_
          refine sy (v := I ((((sealL lk fr to l).length) - 32 : Nat) : Int)) (n_sub (a := (sealL lk fr to l).length) (b := 32) rfl rfl (by omega) (by omega)) ?_
          have hL106 : ((sealL lk fr to l).take (((sealL lk fr to l).length) - 32)).length = (((sealL lk fr to l).length) - 32) := by rw [List.length_take]; omega
          refine sy (v := slv 1 0 (((sealL lk fr to l).length) - 32) v7) (y_slR (k1 := .i64) (k2 := .i64) (l := 0) (h := ((sealL lk fr to l).length) - 32) Try.underlying23 sz5 (ho10.rd H104 9 rfl) rfl (.inl ⟨rfl, rfl⟩) (.inr ⟨_, rfl, rfl⟩) (by omega) (by omega)) ?_
          refine st (ow_call fn24 rfl (rmac_c (v0) (slv 1 0 (((sealL lk fr to l).length) - 32) v7) (lk) ((sealL lk fr to l).take (((sealL lk fr to l).length) - 32)) _ ((hK.st H104)).nil ((rdb_pre (ho10.rd H104 9 rfl) (by omega))).nil (by first | omega | (simp only [List.length_append, List.length_cons, List.length_nil, List.length_take, List.length_drop, hmac_length, sha_length, List.length_replicate]; omega)) (by first | omega | (simp only [List.length_append, List.length_cons, List.length_nil, List.length_take, List.length_drop, hmac_length, sha_length, List.length_replicate]; omega))) ⟨rfl, rfl, trivial⟩) ?_
          rintro _ w107 ⟨rfl, hB108⟩
          have H109 : St w [] [[(g100, Rw 31 ([I ((opF lk ((sealL lk fr to l) ++ m) : Nat) : Int), I ((opT lk ((sealL lk fr to l) ++ m) : Nat) : Int), v95]))], E96, E87, [(g74, Rw 31 ([I ((0 : Nat) : Int), I ((0 : Nat) : Int), .slice none 0 0]))], [(g59, Rw 31 ([I ((opF lk ((sealL lk fr to l).set (rndI z2 (sealL lk fr to l).length) ((sealL lk fr to l).getD (rndI z2 (sealL lk fr to l).length) 0 ^^^ y)) : Nat) : Int), I ((opT lk ((sealL lk fr to l).set (rndI z2 (sealL lk fr to l).length) ((sealL lk fr to l).getD (rndI z2 (sealL lk fr to l).length) 0 ^^^ y)) : Nat) : Int), v54]))], E55, E47, [(g25, Rw 31 ([I ((opF lk (sealL lk fr to l) : Nat) : Int), I ((opT lk (sealL lk fr to l) : Nat) : Int), v20]))], E21, E9, [(g1, Rw 31 ([I (fr), I (to), bv]))]] w107 := H104.call hB108
          refine st (ow_alloc (l := (List.replicate 32 0).map B8) H109 zr26 (by simp [Value.cells])) ?_
          rintro _ w111 ⟨g110, rfl, H112⟩
          refine s0 (ow_storeW (us := (hmac (lk) ((sealL lk fr to l).take (((sealL lk fr to l).length) - 32))).map B8) H112 sz26 ((List.length_map _).trans (hmac_length _ _)) rfl rfl (map_one (F := B8) (fun _ => rfl) _) ((List.length_map _).trans List.length_replicate)) ?_
          rintro _ w113 H114'
          have H114 : St w [] [[(g110, Rw 26 ((hmac (lk) ((sealL lk fr to l).take (((sealL lk fr to l).length) - 32))).map B8))], [(g100, Rw 31 ([I ((opF lk ((sealL lk fr to l) ++ m) : Nat) : Int), I ((opT lk ((sealL lk fr to l) ++ m) : Nat) : Int), v95]))], E96, E87, [(g74, Rw 31 ([I ((0 : Nat) : Int), I ((0 : Nat) : Int), .slice none 0 0]))], [(g59, Rw 31 ([I ((opF lk ((sealL lk fr to l).set (rndI z2 (sealL lk fr to l).length) ((sealL lk fr to l).getD (rndI z2 (sealL lk fr to l).length) 0 ^^^ y)) : Nat) : Int), I ((opT lk ((sealL lk fr to l).set (rndI z2 (sealL lk fr to l).length) ((sealL lk fr to l).getD (rndI z2 (sealL lk fr to l).length) 0 ^^^ y)) : Nat) : Int), v54]))], E55, E47, [(g25, Rw 31 ([I ((opF lk (sealL lk fr to l) : Nat) : Int), I ((opT lk (sealL lk fr to l) : Nat) : Int), v20]))], E21, E9, [(g1, Rw 31 ([I (fr), I (to), bv]))]] w113 := H114'
          refine c_nil ?_
          refine n_then ?_
          refine c_seq ?_
          refine drawS (.step 0 0 (.step 0 1 (.step 0 2 (.step 0 3 (.step 0 4 (.step 0 5 (.step 0 6 (.step 0 7 (.step 0 8 (.step 0 9 (.step 0 10 (.step 0 11 (.step 0 12 (.step 1 13 (.step 0 14 (.step 0 15 .nil)))))))))))))))) mixed H114 (by kernel_rfl) (by kernel_rfl) (by kernel_rfl) ?_
          intro w115 H116
          refine pt (v := I ((rndI z2 ((sealL lk fr to l).length) : Nat) : Int)) rfl (fun wS HS => y_move rfl) ?_
          refine pt (v := v7) rfl (fun wS HS => y_move rfl) ?_
          refine pt (v := I (((sealL lk fr to l).length : Nat) : Int)) rfl (fun wS HS => y_lenR Try.underlying23 (ho10.rd HS 10 rfl) rfl) ?_
          refine pt (v := I ((((sealL lk fr to l).length) - 32 : Nat) : Int)) rfl (fun wS HS => n_sub (a := (sealL lk fr to l).length) (b := 32) rfl rfl (by omega) (by omega)) ?_
          refine pt (v := .bool (decide ((((sealL lk fr to l).length) - 32) ≤ (rndI z2 ((sealL lk fr to l).length))))) rfl (fun wS HS => n_geq (a := rndI z2 ((sealL lk fr to l).length)) (b := ((sealL lk fr to l).length) - 32) rfl rfl) ?_
          refine pt (v := .bool (decide ((((sealL lk fr to l).length) - 32) ≤ (rndI z2 ((sealL lk fr to l).length))))) rfl (fun wS HS => y_move rfl) ?_
          have hq117 : ¬ ((((sealL lk fr to l).length) - 32) ≤ (rndI z2 ((sealL lk fr to l).length))) := (by have := (turn_law hb0 (rndI_lt z2 (by omega)) (xor_ne hc105) hp52).1; omega)
          refine gpt (v := .agg ((hmac lk ((sealL lk fr to l).take (((sealL lk fr to l).length) - 32))).map B8).toArray) rfl (gv_of (t := 160) rfl rfl rfl) (decide_eq_false hq117) (fun wS HS => y_loadA (us := (hmac (lk) ((sealL lk fr to l).take (((sealL lk fr to l).length) - 32))).map B8) ag26 sz26 ((List.length_map _).trans (hmac_length _ _)) rfl (fun j u hu => (HS.cell 0 rfl (by rw [Nat.zero_add]; exact hu)))) ?_
          refine gpt (v := v0) rfl (gv_of (t := 160) rfl rfl rfl) (decide_eq_false hq117) (fun wS HS => y_move rfl) ?_
          refine gpt (v := v43) rfl (gv_of (t := 160) rfl rfl rfl) (decide_eq_false hq117) (fun wS HS => y_move rfl) ?_
          refine gpt (v := v43) rfl (gv_of (t := 160) rfl rfl rfl) (decide_eq_false hq117) (fun wS HS => y_move rfl) ?_
          refine gpt (v := I ((((sealL lk fr to l).set (rndI z2 (sealL lk fr to l).length) ((sealL lk fr to l).getD (rndI z2 (sealL lk fr to l).length) 0 ^^^ y)).length : Nat) : Int)) rfl (gv_of (t := 160) rfl rfl rfl) (decide_eq_false hq117) (fun wS HS => y_lenR Try.underlying23 (ho50.rd HS 7 rfl) rfl) ?_
          refine gpt (v := I (((((sealL lk fr to l).set (rndI z2 (sealL lk fr to l).length) ((sealL lk fr to l).getD (rndI z2 (sealL lk fr to l).length) 0 ^^^ y)).length) - 32 : Nat) : Int)) rfl (gv_of (t := 160) rfl rfl rfl) (decide_eq_false hq117) (fun wS HS => n_sub (a := ((sealL lk fr to l).set (rndI z2 (sealL lk fr to l).length) ((sealL lk fr to l).getD (rndI z2 (sealL lk fr to l).length) 0 ^^^ y)).length) (b := 32) rfl rfl (by omega) (by omega)) ?_
          have hL118 : (((sealL lk fr to l).set (rndI z2 (sealL lk fr to l).length) ((sealL lk fr to l).getD (rndI z2 (sealL lk fr to l).length) 0 ^^^ y)).take ((((sealL lk fr to l).set (rndI z2 (sealL lk fr to l).length) ((sealL lk fr to l).getD (rndI z2 (sealL lk fr to l).length) 0 ^^^ y)).length) - 32)).length = ((((sealL lk fr to l).set (rndI z2 (sealL lk fr to l).length) ((sealL lk fr to l).getD (rndI z2 (sealL lk fr to l).length) 0 ^^^ y)).length) - 32) := by rw [List.length_take]; omega
          refine gpt (v := slv 1 0 ((((sealL lk fr to l).set (rndI z2 (sealL lk fr to l).length) ((sealL lk fr to l).getD (rndI z2 (sealL lk fr to l).length) 0 ^^^ y)).length) - 32) v43) rfl (gv_of (t := 160) rfl rfl rfl) (decide_eq_false hq117) (fun wS HS => y_slR (k1 := .i64) (k2 := .i64) (l := 0) (h := (((sealL lk fr to l).set (rndI z2 (sealL lk fr to l).length) ((sealL lk fr to l).getD (rndI z2 (sealL lk fr to l).length) 0 ^^^ y)).length) - 32) Try.underlying23 sz5 (ho50.rd HS 7 rfl) rfl (.inl ⟨rfl, rfl⟩) (.inr ⟨_, rfl, rfl⟩) (by omega) (by omega)) ?_
          refine gpl rfl (gv_of (t := 160) rfl rfl rfl) (decide_eq_false hq117) (ow_call fn24 rfl (rmac_c (v0) (slv 1 0 ((((sealL lk fr to l).set (rndI z2 (sealL lk fr to l).length) ((sealL lk fr to l).getD (rndI z2 (sealL lk fr to l).length) 0 ^^^ y)).length) - 32) v43) (lk) (((sealL lk fr to l).set (rndI z2 (sealL lk fr to l).length) ((sealL lk fr to l).getD (rndI z2 (sealL lk fr to l).length) 0 ^^^ y)).take ((((sealL lk fr to l).set (rndI z2 (sealL lk fr to l).length) ((sealL lk fr to l).getD (rndI z2 (sealL lk fr to l).length) 0 ^^^ y)).length) - 32)) _ ((hK.st H116)).nil ((rdb_pre (ho50.rd H116 7 rfl) (by omega))).nil (by first | omega | (simp only [List.length_append, List.length_cons, List.length_nil, List.length_take, List.length_drop, hmac_length, sha_length, List.length_replicate]; omega)) (by first | omega | (simp only [List.length_append, List.length_cons, List.length_nil, List.length_take, List.length_drop, hmac_length, sha_length, List.length_replicate]; omega))) ⟨rfl, rfl, trivial⟩) ?_
          rintro _ w119 ⟨rfl, hB120⟩
          have H121 : St w [] [[(g110, Rw 26 ((hmac (lk) ((sealL lk fr to l).take (((sealL lk fr to l).length) - 32))).map B8))], [(g100, Rw 31 ([I ((opF lk ((sealL lk fr to l) ++ m) : Nat) : Int), I ((opT lk ((sealL lk fr to l) ++ m) : Nat) : Int), v95]))], E96, E87, [(g74, Rw 31 ([I ((0 : Nat) : Int), I ((0 : Nat) : Int), .slice none 0 0]))], [(g59, Rw 31 ([I ((opF lk ((sealL lk fr to l).set (rndI z2 (sealL lk fr to l).length) ((sealL lk fr to l).getD (rndI z2 (sealL lk fr to l).length) 0 ^^^ y)) : Nat) : Int), I ((opT lk ((sealL lk fr to l).set (rndI z2 (sealL lk fr to l).length) ((sealL lk fr to l).getD (rndI z2 (sealL lk fr to l).length) 0 ^^^ y)) : Nat) : Int), v54]))], E55, E47, [(g25, Rw 31 ([I ((opF lk (sealL lk fr to l) : Nat) : Int), I ((opT lk (sealL lk fr to l) : Nat) : Int), v20]))], E21, E9, [(g1, Rw 31 ([I (fr), I (to), bv]))]] w119 := H116.call hB120
          refine ⟨H121, ?_⟩
          refine gpt (v := .bool (decide ((hmac lk ((sealL lk fr to l).take (((sealL lk fr to l).length) - 32))) ≠ (hmac lk (((sealL lk fr to l).set (rndI z2 (sealL lk fr to l).length) ((sealL lk fr to l).getD (rndI z2 (sealL lk fr to l).length) 0 ^^^ y)).take ((((sealL lk fr to l).set (rndI z2 (sealL lk fr to l).length) ((sealL lk fr to l).getD (rndI z2 (sealL lk fr to l).length) 0 ^^^ y)).length) - 32)))))) rfl (gv_of (t := 160) rfl rfl rfl) (decide_eq_false hq117) (fun wS HS => y_neqArr (l1 := hmac (lk) ((sealL lk fr to l).take (((sealL lk fr to l).length) - 32))) (l2 := hmac (lk) (((sealL lk fr to l).set (rndI z2 (sealL lk fr to l).length) ((sealL lk fr to l).getD (rndI z2 (sealL lk fr to l).length) 0 ^^^ y)).take ((((sealL lk fr to l).set (rndI z2 (sealL lk fr to l).length) ((sealL lk fr to l).getD (rndI z2 (sealL lk fr to l).length) 0 ^^^ y)).length) - 32))) Try.underlying26 sz5 sc5 Try.underlying5 gt26 (hmac_length _ _) (hmac_length _ _) rfl rfl) ?_
          refine pt (v := .bool (decide ((hmac lk ((sealL lk fr to l).take (((sealL lk fr to l).length) - 32))) ≠ (hmac lk (((sealL lk fr to l).set (rndI z2 (sealL lk fr to l).length) ((sealL lk fr to l).getD (rndI z2 (sealL lk fr to l).length) 0 ^^^ y)).take ((((sealL lk fr to l).set (rndI z2 (sealL lk fr to l).length) ((sealL lk fr to l).getD (rndI z2 (sealL lk fr to l).length) 0 ^^^ y)).length) - 32)))))) rfl (fun wS HS => y_pickF rfl (decide_eq_false hq117) rfl) ?_
          refine p_nil ?_
          refine n_then ?_
          have hq122 : ¬ ((hmac lk ((sealL lk fr to l).take (((sealL lk fr to l).length) - 32))) ≠ (hmac lk (((sealL lk fr to l).set (rndI z2 (sealL lk fr to l).length) ((sealL lk fr to l).getD (rndI z2 (sealL lk fr to l).length) 0 ^^^ y)).take ((((sealL lk fr to l).set (rndI z2 (sealL lk fr to l).length) ((sealL lk fr to l).getD (rndI z2 (sealL lk fr to l).length) 0 ^^^ y)).length) - 32)))) := (by have hq := (turn_law hb0 (rndI_lt z2 (by omega)) (xor_ne hc105) hp52).2; rw [List.length_set]; exact fun h => h hq)
          refine c_f rfl (decide_eq_false hq122) ?_
          refine wp_skip ?_
          refine n_then ?_
          refine c_seq ?_
          refine c_reg ?_
          refine sy (v := .nilIface) (y_move rfl) ?_
          refine sy (v := .bool (true)) (y_eqlNil0 Try.underlying88 rfl) ?_
          refine sy (v := .bool (true)) (y_move rfl) ?_
          refine gno (gv_of (t := 173) rfl rfl rfl) (rfl) ?_
          refine gno (gv_of (t := 173) rfl rfl rfl) (rfl) ?_
          refine sy (v := .bool (true)) (y_pickT (v := .bool (true)) rfl (rfl) rfl) ?_
          refine sy (v := .bool (true)) (y_move rfl) ?_
          refine gsy (v := .iface u70 x71) (gv_of (t := 177) rfl rfl rfl) (rfl) (y_move rfl) ?_
          refine gsy (v := .bool (true)) (gv_of (t := 177) rfl rfl rfl) (rfl) (y_neqNil Try.underlying88 rfl) ?_
          refine sy (v := .bool (true)) (y_pickT rfl (rfl) rfl) ?_
          refine sy (v := .bool (true)) (y_move rfl) ?_
          refine gsy (v := .nilIface) (gv_of (t := 181) rfl rfl rfl) (rfl) (y_move rfl) ?_
          refine gsy (v := .bool (true)) (gv_of (t := 181) rfl rfl rfl) (rfl) (y_eqlNil0 Try.underlying88 rfl) ?_
          refine gsy (v := v5) (gv_of (t := 181) rfl rfl rfl) (rfl) (y_move rfl) ?_
          refine gsy (v := I ((m.length : Nat) : Int)) (gv_of (t := 181) rfl rfl rfl) (rfl) (y_lenR Try.underlying23 (hM.st H121) rfl) ?_
          refine gsy (v := .bool (decide (m.length = 0))) (gv_of (t := 181) rfl rfl rfl) (rfl) (n_eql (a := m.length) (b := 0) rfl rfl) ?_
          have e123 : ((true) == (decide (m.length = 0))) = true := by rw [decide_eq_true (by rw [hp92]; rfl)]; rfl
          refine gsy (v := .bool (true)) (gv_of (t := 181) rfl rfl rfl) (rfl) ((e123 ▸ y_eqlB (p := true) (q := decide (m.length = 0)) rfl rfl Try.underlying4)) ?_
          refine sy (v := .bool (true)) (y_pickT rfl (rfl) rfl) ?_
          refine sy (v := .bool (true)) (y_assign rfl) ?_
          refine c_nil ?_
          refine n_then ?_
          refine wp_ret ?_
          refine e_r1 Try.results14 (rv_t rfl) ?_
          exact ⟨_, rfl, rfl, H121.below⟩
        · skip
          refine wp_skip ?_
          refine n_then ?_
          refine c_seq ?_
          refine c_reg ?_
          refine sy (v := .nilIface) (y_move rfl) ?_
          refine sy (v := .bool (true)) (y_eqlNil0 Try.underlying88 rfl) ?_
          refine sy (v := .bool (true)) (y_move rfl) ?_
          refine gno (gv_of (t := 173) rfl rfl rfl) (rfl) ?_
          refine gno (gv_of (t := 173) rfl rfl rfl) (rfl) ?_
          refine sy (v := .bool (true)) (y_pickT (v := .bool (true)) rfl (rfl) rfl) ?_
          refine sy (v := .bool (true)) (y_move rfl) ?_
          refine gsy (v := .iface u70 x71) (gv_of (t := 177) rfl rfl rfl) (rfl) (y_move rfl) ?_
          refine gsy (v := .bool (true)) (gv_of (t := 177) rfl rfl rfl) (rfl) (y_neqNil Try.underlying88 rfl) ?_
          refine sy (v := .bool (true)) (y_pickT rfl (rfl) rfl) ?_
          refine sy (v := .bool (true)) (y_move rfl) ?_
          refine gsy (v := .nilIface) (gv_of (t := 181) rfl rfl rfl) (rfl) (y_move rfl) ?_
          refine gsy (v := .bool (true)) (gv_of (t := 181) rfl rfl rfl) (rfl) (y_eqlNil0 Try.underlying88 rfl) ?_
          refine gsy (v := v5) (gv_of (t := 181) rfl rfl rfl) (rfl) (y_move rfl) ?_
          refine gsy (v := I ((m.length : Nat) : Int)) (gv_of (t := 181) rfl rfl rfl) (rfl) (y_lenR Try.underlying23 (hM.st H104) rfl) ?_
          refine gsy (v := .bool (decide (m.length = 0))) (gv_of (t := 181) rfl rfl rfl) (rfl) (n_eql (a := m.length) (b := 0) rfl rfl) ?_
          have e124 : ((true) == (decide (m.length = 0))) = true := by rw [decide_eq_true (by rw [hp92]; rfl)]; rfl
          refine gsy (v := .bool (true)) (gv_of (t := 181) rfl rfl rfl) (rfl) ((e124 ▸ y_eqlB (p := true) (q := decide (m.length = 0)) rfl rfl Try.underlying4)) ?_
          refine sy (v := .bool (true)) (y_pickT rfl (rfl) rfl) ?_
          refine sy (v := .bool (true)) (y_assign rfl) ?_
          refine c_nil ?_
          refine n_then ?_
          refine wp_ret ?_
          refine e_r1 Try.results14 (rv_t rfl) ?_
          exact ⟨_, rfl, rfl, H104.below⟩
      · skip
        have hj125 : ¬ opE lk ((sealL lk fr to l) ++ m) = none := fun h => hp92 ((more_iff hb0).1 h)
        refine st (ow_call fn69 rfl (open_err (v0) (v88) (lk) ((sealL lk fr to l) ++ m) _ ((hK.st H90)).nil ((ho91.rd H90 0 rfl)).nil (by first | omega | (simp only [List.length_append, List.length_cons, List.length_nil, List.length_take, List.length_drop, hmac_length, sha_length, List.length_replicate]; omega)) (by first | omega | (simp only [List.length_append, List.length_cons, List.length_nil, List.length_take, List.length_drop, hmac_length, sha_length, List.length_replicate]; omega)) hj125) ⟨rfl, rfl, trivial⟩) ?_
        rintro _ w126 ⟨u127, x128, rfl, hB129⟩
        have H130 : St w [] [E87, [(g74, Rw 31 ([I ((0 : Nat) : Int), I ((0 : Nat) : Int), .slice none 0 0]))], [(g59, Rw 31 ([I ((opF lk ((sealL lk fr to l).set (rndI z2 (sealL lk fr to l).length) ((sealL lk fr to l).getD (rndI z2 (sealL lk fr to l).length) 0 ^^^ y)) : Nat) : Int), I ((opT lk ((sealL lk fr to l).set (rndI z2 (sealL lk fr to l).length) ((sealL lk fr to l).getD (rndI z2 (sealL lk fr to l).length) 0 ^^^ y)) : Nat) : Int), v54]))], E55, E47, [(g25, Rw 31 ([I ((opF lk (sealL lk fr to l) : Nat) : Int), I ((opT lk (sealL lk fr to l) : Nat) : Int), v20]))], E21, E9, [(g1, Rw 31 ([I (fr), I (to), bv]))]] w126 := H90.call hB129
        refine sy (v := .tuple #[.agg ([I ((0 : Nat) : Int), I ((0 : Nat) : Int), .slice none 0 0]).toArray, .iface u127 x128]) (y_move rfl) ?_
        refine sy (v := .agg ([I ((0 : Nat) : Int), I ((0 : Nat) : Int), .slice none 0 0]).toArray) (y_extract (i := 0) rfl rfl) ?_
        refine sy (v := .iface u127 x128) (y_extract (i := 1) rfl rfl) ?_
        refine st (ow_alloc (l := [I ((0 : Nat) : Int), I ((0 : Nat) : Int), .slice none 0 0]) H130 zr31 rfl) ?_
        rintro _ w132 ⟨g131, rfl, H133⟩
        refine s0 (ow_storeW (us := [I ((0 : Nat) : Int), I ((0 : Nat) : Int), .slice none 0 0]) H133 sz31 rfl rfl rfl (by simp [Value.oneCell']) (by simp [*])) ?_
        rintro _ w134 H135'
        have H135 : St w [] [[(g131, Rw 31 ([I ((0 : Nat) : Int), I ((0 : Nat) : Int), .slice none 0 0]))], E87, [(g74, Rw 31 ([I ((0 : Nat) : Int), I ((0 : Nat) : Int), .slice none 0 0]))], [(g59, Rw 31 ([I ((opF lk ((sealL lk fr to l).set (rndI z2 (sealL lk fr to l).length) ((sealL lk fr to l).getD (rndI z2 (sealL lk fr to l).length) 0 ^^^ y)) : Nat) : Int), I ((opT lk ((sealL lk fr to l).set (rndI z2 (sealL lk fr to l).length) ((sealL lk fr to l).getD (rndI z2 (sealL lk fr to l).length) 0 ^^^ y)) : Nat) : Int), v54]))], E55, E47, [(g25, Rw 31 ([I ((opF lk (sealL lk fr to l) : Nat) : Int), I ((opT lk (sealL lk fr to l) : Nat) : Int), v20]))], E21, E9, [(g1, Rw 31 ([I (fr), I (to), bv]))]] w134 := H135'
        refine sy (v := .iface u127 x128) (y_assign rfl) ?_
        refine c_nil ?_
        refine n_then ?_
        refine c_seq ?_
        refine c_seq ?_
        refine c_reg ?_
        refine sy (v := .nilIface) (y_move rfl) ?_
        refine sy (v := .bool (true)) (y_eqlNil0 Try.underlying88 rfl) ?_
        refine sy (v := .bool (true)) (y_move rfl) ?_
        refine gsy (v := B8 (y)) (gv_of (t := 144) rfl rfl rfl) (rfl) (y_move rfl) ?_
        refine gsy (v := .bool (decide (y ≠ 0))) (gv_of (t := 144) rfl rfl rfl) (rfl) (y_neq8 (a := y) (b := 0) rfl rfl) ?_
        refine sy (v := .bool (decide (y ≠ 0))) (y_pickT rfl (rfl) rfl) ?_
        refine c_nil ?_
        refine n_then ?_
        refine c_if rfl (fun hc136 => ?_) (fun hc136 => ?_)
        · skip
          refine c_seq ?_
          refine c_reg ?_
          refine sy (v := v0) (y_move rfl) ?_
          refine sy (v := v7) (y_move rfl) ?_
          refine sy (v := v7) (y_move rfl) ?_
          refine sy (v := I (((sealL lk fr to l).length : Nat) : Int)) (y_lenR Try.underlying23 (ho10.rd H135 8 rfl) rfl) ?_
          refine sy (v := I ((((sealL lk fr to l).length) - 32 : Nat) : Int)) (n_sub (a := (sealL lk fr to l).length) (b := 32) rfl rfl (by omega) (by omega)) ?_
          have hL137 : ((sealL lk fr to l).take (((sealL lk fr to l).length) - 32)).length = (((sealL lk fr to l).length) - 32) := by rw [List.length_take]; omega
          refine sy (v := slv 1 0 (((sealL lk fr to l).length) - 32) v7) (y_slR (k1 := .i64) (k2 := .i64) (l := 0) (h := ((sealL lk fr to l).length) - 32) Try.underlying23 sz5 (ho10.rd H135 8 rfl) rfl (.inl ⟨rfl, rfl⟩) (.inr ⟨_, rfl, rfl⟩) (by omega) (by omega)) ?_
          refine st (ow_call fn24 rfl (rmac_c (v0) (slv 1 0 (((sealL lk fr to l).length) - 32) v7) (lk) ((sealL lk fr to l).take (((sealL lk fr to l).length) - 32)) _ ((hK.st H135)).nil ((rdb_pre (ho10.rd H135 8 rfl) (by omega))).nil (by first | omega | (simp only [List.length_append, List.length_cons, List.length_nil, List.length_take, List.length_drop, hmac_length, sha_length, List.length_replicate]; omega)) (by first | omega | (simp only [List.length_append, List.length_cons, List.length_nil, List.length_take, List.length_drop, hmac_length, sha_length, List.length_replicate]; omega))) ⟨rfl, rfl, trivial⟩) ?_
          rintro _ w138 ⟨rfl, hB139⟩
          have H140 : St w [] [[(g131, Rw 31 ([I ((0 : Nat) : Int), I ((0 : Nat) : Int), .slice none 0 0]))], E87, [(g74, Rw 31 ([I ((0 : Nat) : Int), I ((0 : Nat) : Int), .slice none 0 0]))], [(g59, Rw 31 ([I ((opF lk ((sealL lk fr to l).set (rndI z2 (sealL lk fr to l).length) ((sealL lk fr to l).getD (rndI z2 (sealL lk fr to l).length) 0 ^^^ y)) : Nat) : Int), I ((opT lk ((sealL lk fr to l).set (rndI z2 (sealL lk fr to l).length) ((sealL lk fr to l).getD (rndI z2 (sealL lk fr to l).length) 0 ^^^ y)) : Nat) : Int), v54]))], E55, E47, [(g25, Rw 31 ([I ((opF lk (sealL lk fr to l) : Nat) : Int), I ((opT lk (sealL lk fr to l) : Nat) : Int), v20]))], E21, E9, [(g1, Rw 31 ([I (fr), I (to), bv]))]] w138 := H135.call hB139
          refine st (ow_alloc (l := (List.replicate 32 0).map B8) H140 zr26 (by simp [Value.cells])) ?_
          rintro _ w142 ⟨g141, rfl, H143⟩
          refine s0 (ow_storeW (us := (hmac (lk) ((sealL lk fr to l).take (((sealL lk fr to l).length) - 32))).map B8) H143 sz26 ((List.length_map _).trans (hmac_length _ _)) rfl rfl (map_one (F := B8) (fun _ => rfl) _) ((List.length_map _).trans List.length_replicate)) ?_
          rintro _ w144 H145'
          have H145 : St w [] [[(g141, Rw 26 ((hmac (lk) ((sealL lk fr to l).take (((sealL lk fr to l).length) - 32))).map B8))], [(g131, Rw 31 ([I ((0 : Nat) : Int), I ((0 : Nat) : Int), .slice none 0 0]))], E87, [(g74, Rw 31 ([I ((0 : Nat) : Int), I ((0 : Nat) : Int), .slice none 0 0]))], [(g59, Rw 31 ([I ((opF lk ((sealL lk fr to l).set (rndI z2 (sealL lk fr to l).length) ((sealL lk fr to l).getD (rndI z2 (sealL lk fr to l).length) 0 ^^^ y)) : Nat) : Int), I ((opT lk ((sealL lk fr to l).set (rndI z2 (sealL lk fr to l).length) ((sealL lk fr to l).getD (rndI z2 (sealL lk fr to l).length) 0 ^^^ y)) : Nat) : Int), v54]))], E55, E47, [(g25, Rw 31 ([I ((opF lk (sealL lk fr to l) : Nat) : Int), I ((opT lk (sealL lk fr to l) : Nat) : Int), v20]))], E21, E9, [(g1, Rw 31 ([I (fr), I (to), bv]))]] w144 := H145'
          refine c_nil ?_
          refine n_then ?_
          refine c_seq ?_
          refine drawS (.step 0 0 (.step 0 1 (.step 0 2 (.step 0 3 (.step 0 4 (.step 0 5 (.step 0 6 (.step 0 7 (.step 0 8 (.step 0 9 (.step 0 10 (.step 0 11 (.step 0 12 (.step 1 13 (.step 0 14 (.step 0 15 .nil)))))))))))))))) mixed H145 (by kernel_rfl) (by kernel_rfl) (by kernel_rfl) ?_
          intro w146 H147
          refine pt (v := I ((rndI z2 ((sealL lk fr to l).length) : Nat) : Int)) rfl (fun wS HS => y_move rfl) ?_
          refine pt (v := v7) rfl (fun wS HS => y_move rfl) ?_
          refine pt (v := I (((sealL lk fr to l).length : Nat) : Int)) rfl (fun wS HS => y_lenR Try.underlying23 (ho10.rd HS 9 rfl) rfl) ?_
          refine pt (v := I ((((sealL lk fr to l).length) - 32 : Nat) : Int)) rfl (fun wS HS => n_sub (a := (sealL lk fr to l).length) (b := 32) rfl rfl (by omega) (by omega)) ?_
          refine pt (v := .bool (decide ((((sealL lk fr to l).length) - 32) ≤ (rndI z2 ((sealL lk fr to l).length))))) rfl (fun wS HS => n_geq (a := rndI z2 ((sealL lk fr to l).length)) (b := ((sealL lk fr to l).length) - 32) rfl rfl) ?_
          refine pt (v := .bool (decide ((((sealL lk fr to l).length) - 32) ≤ (rndI z2 ((sealL lk fr to l).length))))) rfl (fun wS HS => y_move rfl) ?_
          have hq148 : ¬ ((((sealL lk fr to l).length) - 32) ≤ (rndI z2 ((sealL lk fr to l).length))) := (by have := (turn_law hb0 (rndI_lt z2 (by omega)) (xor_ne hc136) hp52).1; omega)
          refine gpt (v := .agg ((hmac lk ((sealL lk fr to l).take (((sealL lk fr to l).length) - 32))).map B8).toArray) rfl (gv_of (t := 160) rfl rfl rfl) (decide_eq_false hq148) (fun wS HS => y_loadA (us := (hmac (lk) ((sealL lk fr to l).take (((sealL lk fr to l).length) - 32))).map B8) ag26 sz26 ((List.length_map _).trans (hmac_length _ _)) rfl (fun j u hu => (HS.cell 0 rfl (by rw [Nat.zero_add]; exact hu)))) ?_
          refine gpt (v := v0) rfl (gv_of (t := 160) rfl rfl rfl) (decide_eq_false hq148) (fun wS HS => y_move rfl) ?_
          refine gpt (v := v43) rfl (gv_of (t := 160) rfl rfl rfl) (decide_eq_false hq148) (fun wS HS => y_move rfl) ?_
          refine gpt (v := v43) rfl (gv_of (t := 160) rfl rfl rfl) (decide_eq_false hq148) (fun wS HS => y_move rfl) ?_
          refine gpt (v := I ((((sealL lk fr to l).set (rndI z2 (sealL lk fr to l).length) ((sealL lk fr to l).getD (rndI z2 (sealL lk fr to l).length) 0 ^^^ y)).length : Nat) : Int)) rfl (gv_of (t := 160) rfl rfl rfl) (decide_eq_false hq148) (fun wS HS => y_lenR Try.underlying23 (ho50.rd HS 6 rfl) rfl) ?_
          refine gpt (v := I (((((sealL lk fr to l).set (rndI z2 (sealL lk fr to l).length) ((sealL lk fr to l).getD (rndI z2 (sealL lk fr to l).length) 0 ^^^ y)).length) - 32 : Nat) : Int)) rfl (gv_of (t := 160) rfl rfl rfl) (decide_eq_false hq148) (fun wS HS => n_sub (a := ((sealL lk fr to l).set (rndI z2 (sealL lk fr to l).length) ((sealL lk fr to l).getD (rndI z2 (sealL lk fr to l).length) 0 ^^^ y)).length) (b := 32) rfl rfl (by omega) (by omega)) ?_
          have hL149 : (((sealL lk fr to l).set (rndI z2 (sealL lk fr to l).length) ((sealL lk fr to l).getD (rndI z2 (sealL lk fr to l).length) 0 ^^^ y)).take ((((sealL lk fr to l).set (rndI z2 (sealL lk fr to l).length) ((sealL lk fr to l).getD (rndI z2 (sealL lk fr to l).length) 0 ^^^ y)).length) - 32)).length = ((((sealL lk fr to l).set (rndI z2 (sealL lk fr to l).length) ((sealL lk fr to l).getD (rndI z2 (sealL lk fr to l).length) 0 ^^^ y)).length) - 32) := by rw [List.length_take]; omega
          refine gpt (v := slv 1 0 ((((sealL lk fr to l).set (rndI z2 (sealL lk fr to l).length) ((sealL lk fr to l).getD (rndI z2 (sealL lk fr to l).length) 0 ^^^ y)).length) - 32) v43) rfl (gv_of (t := 160) rfl rfl rfl) (decide_eq_false hq148) (fun wS HS => y_slR (k1 := .i64) (k2 := .i64) (l := 0) (h := (((sealL lk fr to l).set (rndI z2 (sealL lk fr to l).length) ((sealL lk fr to l).getD (rndI z2 (sealL lk fr to l).length) 0 ^^^ y)).length) - 32) Try.underlying23 sz5 (ho50.rd HS 6 rfl) rfl (.inl ⟨rfl, rfl⟩) (.inr ⟨_, rfl, rfl⟩) (by omega) (by omega)) ?_
          refine gpl rfl (gv_of (t := 160) rfl rfl rfl) (decide_eq_false hq148) (ow_call fn24 rfl (rmac_c (v0) (slv 1 0 ((((sealL lk fr to l).set (rndI z2 (sealL lk fr to l).length) ((sealL lk fr to l).getD (rndI z2 (sealL lk fr to l).length) 0 ^^^ y)).length) - 32) v43) (lk) (((sealL lk fr to l).set (rndI z2 (sealL lk fr to l).length) ((sealL lk fr to l).getD (rndI z2 (sealL lk fr to l).length) 0 ^^^ y)).take ((((sealL lk fr to l).set (rndI z2 (sealL lk fr to l).length) ((sealL lk fr to l).getD (rndI z2 (sealL lk fr to l).length) 0 ^^^ y)).length) - 32)) _ ((hK.st H147)).nil ((rdb_pre (ho50.rd H147 6 rfl) (by omega))).nil (by first | omega | (simp only [List.length_append, List.length_cons, List.length_nil, List.length_take, List.length_drop, hmac_length, sha_length, List.length_replicate]; omega)) (by first | omega | (simp only [List.length_append, List.length_cons, List.length_nil, List.length_take, List.length_drop, hmac_length, sha_length, List.length_replicate]; omega))) ⟨rfl, rfl, trivial⟩) ?_
          rintro _ w150 ⟨rfl, hB151⟩
          have H152 : St w [] [[(g141, Rw 26 ((hmac (lk) ((sealL lk fr to l).take (((sealL lk fr to l).length) - 32))).map B8))], [(g131, Rw 31 ([I ((0 : Nat) : Int), I ((0 : Nat) : Int), .slice none 0 0]))], E87, [(g74, Rw 31 ([I ((0 : Nat) : Int), I ((0 : Nat) : Int), .slice none 0 0]))], [(g59, Rw 31 ([I ((opF lk ((sealL lk fr to l).set (rndI z2 (sealL lk fr to l).length) ((sealL lk fr to l).getD (rndI z2 (sealL lk fr to l).length) 0 ^^^ y)) : Nat) : Int), I ((opT lk ((sealL lk fr to l).set (rndI z2 (sealL lk fr to l).length) ((sealL lk fr to l).getD (rndI z2 (sealL lk fr to l).length) 0 ^^^ y)) : Nat) : Int), v54]))], E55, E47, [(g25, Rw 31 ([I ((opF lk (sealL lk fr to l) : Nat) : Int), I ((opT lk (sealL lk fr to l) : Nat) : Int), v20]))], E21, E9, [(g1, Rw 31 ([I (fr), I (to), bv]))]] w150 := H147.call hB151
          refine ⟨H152, ?_⟩
          refine gpt (v := .bool (decide ((hmac lk ((sealL lk fr to l).take (((sealL lk fr to l).length) - 32))) ≠ (hmac lk (((sealL lk fr to l).set (rndI z2 (sealL lk fr to l).length) ((sealL lk fr to l).getD (rndI z2 (sealL lk fr to l).length) 0 ^^^ y)).take ((((sealL lk fr to l).set (rndI z2 (sealL lk fr to l).length) ((sealL lk fr to l).getD (rndI z2 (sealL lk fr to l).length) 0 ^^^ y)).length) - 32)))))) rfl (gv_of (t := 160) rfl rfl rfl) (decide_eq_false hq148) (fun wS HS => y_neqArr (l1 := hmac (lk) ((sealL lk fr to l).take (((sealL lk fr to l).length) - 32))) (l2 := hmac (lk) (((sealL lk fr to l).set (rndI z2 (sealL lk fr to l).length) ((sealL lk fr to l).getD (rndI z2 (sealL lk fr to l).length) 0 ^^^ y)).take ((((sealL lk fr to l).set (rndI z2 (sealL lk fr to l).length) ((sealL lk fr to l).getD (rndI z2 (sealL lk fr to l).length) 0 ^^^ y)).length) - 32))) Try.underlying26 sz5 sc5 Try.underlying5 gt26 (hmac_length _ _) (hmac_length _ _) rfl rfl) ?_
          refine pt (v := .bool (decide ((hmac lk ((sealL lk fr to l).take (((sealL lk fr to l).length) - 32))) ≠ (hmac lk (((sealL lk fr to l).set (rndI z2 (sealL lk fr to l).length) ((sealL lk fr to l).getD (rndI z2 (sealL lk fr to l).length) 0 ^^^ y)).take ((((sealL lk fr to l).set (rndI z2 (sealL lk fr to l).length) ((sealL lk fr to l).getD (rndI z2 (sealL lk fr to l).length) 0 ^^^ y)).length) - 32)))))) rfl (fun wS HS => y_pickF rfl (decide_eq_false hq148) rfl) ?_
          refine p_nil ?_
          refine n_then ?_
          have hq153 : ¬ ((hmac lk ((sealL lk fr to l).take (((sealL lk fr to l).length) - 32))) ≠ (hmac lk (((sealL lk fr to l).set (rndI z2 (sealL lk fr to l).length) ((sealL lk fr to l).getD (rndI z2 (sealL lk fr to l).length) 0 ^^^ y)).take ((((sealL lk fr to l).set (rndI z2 (sealL lk fr to l).length) ((sealL lk fr to l).getD (rndI z2 (sealL lk fr to l).length) 0 ^^^ y)).length) - 32)))) := (by have hq := (turn_law hb0 (rndI_lt z2 (by omega)) (xor_ne hc136) hp52).2; rw [List.length_set]; exact fun h => h hq)
          refine c_f rfl (decide_eq_false hq153) ?_
          refine wp_skip ?_
          refine n_then ?_
          refine c_seq ?_
          refine c_reg ?_
          refine sy (v := .nilIface) (y_move rfl) ?_
          refine sy (v := .bool (true)) (y_eqlNil0 Try.underlying88 rfl) ?_
          refine sy (v := .bool (true)) (y_move rfl) ?_
          refine gno (gv_of (t := 173) rfl rfl rfl) (rfl) ?_
          refine gno (gv_of (t := 173) rfl rfl rfl) (rfl) ?_
          refine sy (v := .bool (true)) (y_pickT (v := .bool (true)) rfl (rfl) rfl) ?_
          refine sy (v := .bool (true)) (y_move rfl) ?_
          refine gsy (v := .iface u70 x71) (gv_of (t := 177) rfl rfl rfl) (rfl) (y_move rfl) ?_
          refine gsy (v := .bool (true)) (gv_of (t := 177) rfl rfl rfl) (rfl) (y_neqNil Try.underlying88 rfl) ?_
          refine sy (v := .bool (true)) (y_pickT rfl (rfl) rfl) ?_
          refine sy (v := .bool (true)) (y_move rfl) ?_
          refine gsy (v := .iface u127 x128) (gv_of (t := 181) rfl rfl rfl) (rfl) (y_move rfl) ?_
          refine gsy (v := .bool (false)) (gv_of (t := 181) rfl rfl rfl) (rfl) (y_eqlNil Try.underlying88 rfl) ?_
          refine gsy (v := v5) (gv_of (t := 181) rfl rfl rfl) (rfl) (y_move rfl) ?_
          refine gsy (v := I ((m.length : Nat) : Int)) (gv_of (t := 181) rfl rfl rfl) (rfl) (y_lenR Try.underlying23 (hM.st H152) rfl) ?_
          refine gsy (v := .bool (decide (m.length = 0))) (gv_of (t := 181) rfl rfl rfl) (rfl) (n_eql (a := m.length) (b := 0) rfl rfl) ?_
          have e154 : ((false) == (decide (m.length = 0))) = true := by rw [decide_eq_false (fun h => hp92 (List.eq_nil_of_length_eq_zero h))]; rfl
          refine gsy (v := .bool (true)) (gv_of (t := 181) rfl rfl rfl) (rfl) ((e154 ▸ y_eqlB (p := false) (q := decide (m.length = 0)) rfl rfl Try.underlying4)) ?_
          refine sy (v := .bool (true)) (y_pickT rfl (rfl) rfl) ?_
          refine sy (v := .bool (true)) (y_assign rfl) ?_
          refine c_nil ?_
          refine n_then ?_
          refine wp_ret ?_
          refine e_r1 Try.results14 (rv_t rfl) ?_
          exact ⟨_, rfl, rfl, H152.below⟩
        · skip
          refine wp_skip ?_
          refine n_then ?_
          refine c_seq ?_
          refine c_reg ?_
          refine sy (v := .nilIface) (y_move rfl) ?_
          refine sy (v := .bool (true)) (y_eqlNil0 Try.underlying88 rfl) ?_
          refine sy (v := .bool (true)) (y_move rfl) ?_
          refine gno (gv_of (t := 173) rfl rfl rfl) (rfl) ?_
          refine gno (gv_of (t := 173) rfl rfl rfl) (rfl) ?_
          refine sy (v := .bool (true)) (y_pickT (v := .bool (true)) rfl (rfl) rfl) ?_
          refine sy (v := .bool (true)) (y_move rfl) ?_
          refine gsy (v := .iface u70 x71) (gv_of (t := 177) rfl rfl rfl) (rfl) (y_move rfl) ?_
          refine gsy (v := .bool (true)) (gv_of (t := 177) rfl rfl rfl) (rfl) (y_neqNil Try.underlying88 rfl) ?_
          refine sy (v := .bool (true)) (y_pickT rfl (rfl) rfl) ?_
          refine sy (v := .bool (true)) (y_move rfl) ?_
          refine gsy (v := .iface u127 x128) (gv_of (t := 181) rfl rfl rfl) (rfl) (y_move rfl) ?_
          refine gsy (v := .bool (false)) (gv_of (t := 181) rfl rfl rfl) (rfl) (y_eqlNil Try.underlying88 rfl) ?_
          refine gsy (v := v5) (gv_of (t := 181) rfl rfl rfl) (rfl) (y_move rfl) ?_
          refine gsy (v := I ((m.length : Nat) : Int)) (gv_of (t := 181) rfl rfl rfl) (rfl) (y_lenR Try.underlying23 (hM.st H135) rfl) ?_
          refine gsy (v := .bool (decide (m.length = 0))) (gv_of (t := 181) rfl rfl rfl) (rfl) (n_eql (a := m.length) (b := 0) rfl rfl) ?_
          have e155 : ((false) == (decide (m.length = 0))) = true := by rw [decide_eq_false (fun h => hp92 (List.eq_nil_of_length_eq_zero h))]; rfl
          refine gsy (v := .bool (true)) (gv_of (t := 181) rfl rfl rfl) (rfl) ((e155 ▸ y_eqlB (p := false) (q := decide (m.length = 0)) rfl rfl Try.underlying4)) ?_
          refine sy (v := .bool (true)) (y_pickT rfl (rfl) rfl) ?_
          refine sy (v := .bool (true)) (y_assign rfl) ?_
          refine c_nil ?_
          refine n_then ?_
          refine wp_ret ?_
          refine e_r1 Try.results14 (rv_t rfl) ?_
          exact ⟨_, rfl, rfl, H135.below⟩
    · skip
      refine st (ow_call fn69 rfl (open_err (v0) (v43) (lk) ((sealL lk fr to l).set (rndI z2 (sealL lk fr to l).length) ((sealL lk fr to l).getD (rndI z2 (sealL lk fr to l).length) 0 ^^^ y)) _ ((hK.st H49)).nil ((ho50.rd H49 0 rfl)).nil (by first | omega | (simp only [List.length_append, List.length_cons, List.length_nil, List.length_take, List.length_drop, hmac_length, sha_length, List.length_replicate]; omega)) (by first | omega | (simp only [List.length_append, List.length_cons, List.length_nil, List.length_take, List.length_drop, hmac_length, sha_length, List.length_replicate]; omega)) hp52) ⟨rfl, rfl, trivial⟩) ?_
      rintro _ w156 ⟨u157, x158, rfl, hB159⟩
      have H160 : St w [] [E47, [(g25, Rw 31 ([I ((opF lk (sealL lk fr to l) : Nat) : Int), I ((opT lk (sealL lk fr to l) : Nat) : Int), v20]))], E21, E9, [(g1, Rw 31 ([I (fr), I (to), bv]))]] w156 := H49.call hB159
      refine sy (v := .tuple #[.agg ([I ((0 : Nat) : Int), I ((0 : Nat) : Int), .slice none 0 0]).toArray, .iface u157 x158]) (y_move rfl) ?_
      refine sy (v := .agg ([I ((0 : Nat) : Int), I ((0 : Nat) : Int), .slice none 0 0]).toArray) (y_extract (i := 0) rfl rfl) ?_
      refine sy (v := .iface u157 x158) (y_extract (i := 1) rfl rfl) ?_
      refine st (ow_alloc (l := [I ((0 : Nat) : Int), I ((0 : Nat) : Int), .slice none 0 0]) H160 zr31 rfl) ?_
      rintro _ w162 ⟨g161, rfl, H163⟩
      refine s0 (ow_storeW (us := [I ((0 : Nat) : Int), I ((0 : Nat) : Int), .slice none 0 0]) H163 sz31 rfl rfl rfl (by simp [Value.oneCell']) (by simp [*])) ?_
      rintro _ w164 H165'
      have H165 : St w [] [[(g161, Rw 31 ([I ((0 : Nat) : Int), I ((0 : Nat) : Int), .slice none 0 0]))], E47, [(g25, Rw 31 ([I ((opF lk (sealL lk fr to l) : Nat) : Int), I ((opT lk (sealL lk fr to l) : Nat) : Int), v20]))], E21, E9, [(g1, Rw 31 ([I (fr), I (to), bv]))]] w164 := H165'
      refine sy (v := .iface u157 x158) (y_assign rfl) ?_
      refine c_nil ?_
      refine n_then ?_
      refine c_seq ?_
      refine c_reg ?_
      refine sy (v := v0) (y_move rfl) ?_
      refine sy (v := v7) (y_move rfl) ?_
      refine sy (v := I (z4)) (y_move rfl) ?_
      refine sy (v := v7) (y_move rfl) ?_
      refine sy (v := I (((sealL lk fr to l).length : Nat) : Int)) (y_lenR Try.underlying23 (ho10.rd H165 4 rfl) rfl) ?_
      refine st (ow_call fn70 rfl (round_c (z4) ((sealL lk fr to l).length) _ (by omega) (by omega)) ⟨rfl, rfl, trivial⟩) ?_
      rintro _ w166 ⟨rfl, hB167⟩
      have H168 : St w [] [[(g161, Rw 31 ([I ((0 : Nat) : Int), I ((0 : Nat) : Int), .slice none 0 0]))], E47, [(g25, Rw 31 ([I ((opF lk (sealL lk fr to l) : Nat) : Int), I ((opT lk (sealL lk fr to l) : Nat) : Int), v20]))], E21, E9, [(g1, Rw 31 ([I (fr), I (to), bv]))]] w166 := H165.call hB167
      have hL169 : ((sealL lk fr to l).take (rndI z4 ((sealL lk fr to l).length))).length = (rndI z4 ((sealL lk fr to l).length)) := by rw [List.length_take]; omega
      refine sy (v := slv 1 0 (rndI z4 ((sealL lk fr to l).length)) v7) (y_slR (k1 := .i64) (k2 := .i64) (l := 0) (h := rndI z4 ((sealL lk fr to l).length)) Try.underlying23 sz5 (ho10.rd H168 4 rfl) rfl (.inl ⟨rfl, rfl⟩) (.inr ⟨_, rfl, rfl⟩) (by omega) (by omega)) ?_
      have hcut170 : ¬ opE lk ((sealL lk fr to l).take (rndI z4 (sealL lk fr to l).length)) = none := cut_some hb0 (rndI_lt z4 (by omega))
      refine st (ow_call fn69 rfl (open_err (v0) (slv 1 0 (rndI z4 ((sealL lk fr to l).length)) v7) (lk) ((sealL lk fr to l).take (rndI z4 ((sealL lk fr to l).length))) _ ((hK.st H168)).nil ((rdb_pre (ho10.rd H168 4 rfl) (by omega))).nil (by first | omega | (simp only [List.length_append, List.length_cons, List.length_nil, List.length_take, List.length_drop, hmac_length, sha_length, List.length_replicate]; omega)) (by first | omega | (simp only [List.length_append, List.length_cons, List.length_nil, List.length_take, List.length_drop, hmac_length, sha_length, List.length_replicate]; omega)) hcut170) ⟨rfl, rfl, trivial⟩) ?_
      rintro _ w171 ⟨u172, x173, rfl, hB174⟩
      have H175 : St w [] [[(g161, Rw 31 ([I ((0 : Nat) : Int), I ((0 : Nat) : Int), .slice none 0 0]))], E47, [(g25, Rw 31 ([I ((opF lk (sealL lk fr to l) : Nat) : Int), I ((opT lk (sealL lk fr to l) : Nat) : Int), v20]))], E21, E9, [(g1, Rw 31 ([I (fr), I (to), bv]))]] w171 := H168.call hB174
      refine sy (v := .tuple #[.agg ([I ((0 : Nat) : Int), I ((0 : Nat) : Int), .slice none 0 0]).toArray, .iface u172 x173]) (y_move rfl) ?_
      refine sy (v := .agg ([I ((0 : Nat) : Int), I ((0 : Nat) : Int), .slice none 0 0]).toArray) (y_extract (i := 0) rfl rfl) ?_
      refine sy (v := .iface u172 x173) (y_extract (i := 1) rfl rfl) ?_
      refine st (ow_alloc (l := [I ((0 : Nat) : Int), I ((0 : Nat) : Int), .slice none 0 0]) H175 zr31 rfl) ?_
      rintro _ w177 ⟨g176, rfl, H178⟩
      refine s0 (ow_storeW (us := [I ((0 : Nat) : Int), I ((0 : Nat) : Int), .slice none 0 0]) H178 sz31 rfl rfl rfl (by simp [Value.oneCell']) (by simp [*])) ?_
      rintro _ w179 H180'
      have H180 : St w [] [[(g176, Rw 31 ([I ((0 : Nat) : Int), I ((0 : Nat) : Int), .slice none 0 0]))], [(g161, Rw 31 ([I ((0 : Nat) : Int), I ((0 : Nat) : Int), .slice none 0 0]))], E47, [(g25, Rw 31 ([I ((opF lk (sealL lk fr to l) : Nat) : Int), I ((opT lk (sealL lk fr to l) : Nat) : Int), v20]))], E21, E9, [(g1, Rw 31 ([I (fr), I (to), bv]))]] w179 := H180'
      refine sy (v := .iface u172 x173) (y_assign rfl) ?_
      refine c_nil ?_
      refine n_then ?_
      refine c_seq ?_
      refine c_reg ?_
      refine st (ow_buildSlice (pv := []) (us := []) Try.underlying23 sz5 zr5 H180 trivial (by decide) fill0) ?_
      rintro _ w182 ⟨g181, rfl, H183⟩
      refine sy (v := v7) (y_move rfl) ?_
      refine st (ow_append Try.underlying23 sz5 zr5 bt5 rfl (os_lit (k := 0) rfl (by simp [maxLen])) H183 rfl rfl ((ho10.rd H183 6 rfl).src Try.underlying23 (map_one (F := B8) (fun _ => rfl) _)) (by first | omega | (simp only [List.length_append, List.length_cons, List.length_nil, List.length_take, List.length_drop, hmac_length, sha_length, List.length_replicate]; omega)) (by first | omega | (simp only [List.length_append, List.length_cons, List.length_nil, List.length_take, List.length_drop, hmac_length, sha_length, List.length_replicate]; omega))) ?_
      rintro v185 w186 ⟨E184, ho188', H187⟩
      have ho188 : OS 5 1 v185 (sealL lk fr to l).length ((sealL lk fr to l).map B8) E184 := by first | (have h := ho188'; rw [Nat.zero_add, List.nil_append] at h; exact h) | simpa using ho188'
      refine sy (v := v185) (y_assign rfl) ?_
      refine c_nil ?_
      refine n_then ?_
      refine c_seq ?_
      refine c_reg ?_
      refine sy (v := v185) (y_move rfl) ?_
      refine sy (v := v5) (y_move rfl) ?_
      refine st (ow_appendW Try.underlying23 sz5 zr5 bt5 rfl ho188 H187 rfl rfl ((hM.st H187).src Try.underlying23 (map_one (F := B8) (fun _ => rfl) _)) (by first | omega | (simp only [List.length_append, List.length_cons, List.length_nil, List.length_take, List.length_drop, hmac_length, sha_length, List.length_replicate]; omega)) (by first | omega | (simp only [List.length_append, List.length_cons, List.length_nil, List.length_take, List.length_drop, hmac_length, sha_length, List.length_replicate]; omega))) ?_
      rintro v190 w191 ⟨E189, ho193', H192⟩
      have ho193 : OS 5 1 v190 ((sealL lk fr to l) ++ m).length (((sealL lk fr to l) ++ m).map B8) E189 := by rw [List.length_append, List.map_append]; exact ho193'
      refine sy (v := v190) (y_assign rfl) ?_
      refine c_nil ?_
      refine n_then ?_
      refine c_seq ?_
      refine c_reg ?_
      refine sy (v := v0) (y_move rfl) ?_
      refine sy (v := v190) (y_move rfl) ?_
      by_cases hp194 : m = []
      · skip
        have hj195 : opE lk ((sealL lk fr to l) ++ m) = none := (more_iff hb0).2 hp194
        refine st (ow_call fn69 rfl (open_ok (v0) (v190) (lk) ((sealL lk fr to l) ++ m) _ ((hK.st H192)).nil ((ho193.rd H192 0 rfl)).nil (by first | omega | (simp only [List.length_append, List.length_cons, List.length_nil, List.length_take, List.length_drop, hmac_length, sha_length, List.length_replicate]; omega)) (by first | omega | (simp only [List.length_append, List.length_cons, List.length_nil, List.length_take, List.length_drop, hmac_length, sha_length, List.length_replicate]; omega)) hj195) ⟨rfl, rfl, trivial⟩) ?_
        rintro _ w196 ⟨v197, E198, rfl, ho199, H200⟩
        have H201 : St w [] [E198, E189, [(g176, Rw 31 ([I ((0 : Nat) : Int), I ((0 : Nat) : Int), .slice none 0 0]))], [(g161, Rw 31 ([I ((0 : Nat) : Int), I ((0 : Nat) : Int), .slice none 0 0]))], E47, [(g25, Rw 31 ([I ((opF lk (sealL lk fr to l) : Nat) : Int), I ((opT lk (sealL lk fr to l) : Nat) : Int), v20]))], E21, E9, [(g1, Rw 31 ([I (fr), I (to), bv]))]] w196 := H192.app H200
        refine sy (v := .tuple #[.agg ([I ((opF lk ((sealL lk fr to l) ++ m) : Nat) : Int), I ((opT lk ((sealL lk fr to l) ++ m) : Nat) : Int), v197]).toArray, .nilIface]) (y_move rfl) ?_
        refine sy (v := .agg ([I ((opF lk ((sealL lk fr to l) ++ m) : Nat) : Int), I ((opT lk ((sealL lk fr to l) ++ m) : Nat) : Int), v197]).toArray) (y_extract (i := 0) rfl rfl) ?_
        refine sy (v := .nilIface) (y_extract (i := 1) rfl rfl) ?_
        refine st (ow_alloc (l := [I ((0 : Nat) : Int), I ((0 : Nat) : Int), .slice none 0 0]) H201 zr31 rfl) ?_
        rintro _ w203 ⟨g202, rfl, H204⟩
        refine s0 (ow_storeW (us := [I ((opF lk ((sealL lk fr to l) ++ m) : Nat) : Int), I ((opT lk ((sealL lk fr to l) ++ m) : Nat) : Int), v197]) H204 sz31 rfl rfl rfl (by intro u hu; simp only [List.mem_cons, List.not_mem_nil, or_false] at hu; rcases hu with rfl | rfl | rfl <;> first | rfl | exact Rd.one (ho199.rd H204 1 rfl)) (by simp [*])) ?_
        rintro _ w205 H206'
        have H206 : St w [] [[(g202, Rw 31 ([I ((opF lk ((sealL lk fr to l) ++ m) : Nat) : Int), I ((opT lk ((sealL lk fr to l) ++ m) : Nat) : Int), v197]))], E198, E189, [(g176, Rw 31 ([I ((0 : Nat) : Int), I ((0 : Nat) : Int), .slice none 0 0]))], [(g161, Rw 31 ([I ((0 : Nat) : Int), I ((0 : Nat) : Int), .slice none 0 0]))], E47, [(g25, Rw 31 ([I ((opF lk (sealL lk fr to l) : Nat) : Int), I ((opT lk (sealL lk fr to l) : Nat) : Int), v20]))], E21, E9, [(g1, Rw 31 ([I (fr), I (to), bv]))]] w205 := H206'
        refine sy (v := .nilIface) (y_assign rfl) ?_
        refine c_nil ?_
        refine n_then ?_
        refine c_seq ?_
        refine c_seq ?_
        refine c_reg ?_
        refine sy (v := .iface u157 x158) (y_move rfl) ?_
        refine sy (v := .bool (false)) (y_eqlNil Try.underlying88 rfl) ?_
        refine sy (v := .bool (false)) (y_move rfl) ?_
        refine gno (gv_of (t := 144) rfl rfl rfl) (rfl) ?_
        refine gno (gv_of (t := 144) rfl rfl rfl) (rfl) ?_
        refine sy (v := .bool (false)) (y_pickF (v := .bool (false)) rfl (rfl) rfl) ?_
        refine c_nil ?_
        refine n_then ?_
        refine c_f rfl rfl ?_
        refine wp_skip ?_
        refine n_then ?_
        refine c_seq ?_
        refine c_reg ?_
        refine sy (v := .iface u157 x158) (y_move rfl) ?_
        refine sy (v := .bool (false)) (y_eqlNil Try.underlying88 rfl) ?_
        refine sy (v := .bool (false)) (y_move rfl) ?_
        refine gsy (v := B8 (y)) (gv_of (t := 173) rfl rfl rfl) (rfl) (y_move rfl) ?_
        refine gsy (v := .bool (decide (y ≠ 0))) (gv_of (t := 173) rfl rfl rfl) (rfl) (y_neq8 (a := y) (b := 0) rfl rfl) ?_
        refine sy (v := .bool (decide (y ≠ 0))) (y_pickF rfl (rfl) rfl) ?_
        refine sy (v := .bool (decide (y ≠ 0))) (y_move rfl) ?_
        have hq207 : y ≠ 0 := (y_ne hb0 hp52)
        refine gsy (v := .iface u172 x173) (gv_of (t := 177) rfl rfl rfl) (decide_eq_true hq207) (y_move rfl) ?_
        refine gsy (v := .bool (true)) (gv_of (t := 177) rfl rfl rfl) (decide_eq_true hq207) (y_neqNil Try.underlying88 rfl) ?_
        refine sy (v := .bool (true)) (y_pickT rfl (decide_eq_true hq207) rfl) ?_
        refine sy (v := .bool (true)) (y_move rfl) ?_
        refine gsy (v := .nilIface) (gv_of (t := 181) rfl rfl rfl) (rfl) (y_move rfl) ?_
        refine gsy (v := .bool (true)) (gv_of (t := 181) rfl rfl rfl) (rfl) (y_eqlNil0 Try.underlying88 rfl) ?_
        refine gsy (v := v5) (gv_of (t := 181) rfl rfl rfl) (rfl) (y_move rfl) ?_
        refine gsy (v := I ((m.length : Nat) : Int)) (gv_of (t := 181) rfl rfl rfl) (rfl) (y_lenR Try.underlying23 (hM.st H206) rfl) ?_
        refine gsy (v := .bool (decide (m.length = 0))) (gv_of (t := 181) rfl rfl rfl) (rfl) (n_eql (a := m.length) (b := 0) rfl rfl) ?_
        have e208 : ((true) == (decide (m.length = 0))) = true := by rw [decide_eq_true (by rw [hp194]; rfl)]; rfl
        refine gsy (v := .bool (true)) (gv_of (t := 181) rfl rfl rfl) (rfl) ((e208 ▸ y_eqlB (p := true) (q := decide (m.length = 0)) rfl rfl Try.underlying4)) ?_
        refine sy (v := .bool (true)) (y_pickT rfl (rfl) rfl) ?_
        refine sy (v := .bool (true)) (y_assign rfl) ?_
        refine c_nil ?_
        refine n_then ?_
        refine wp_ret ?_
        refine e_r1 Try.results14 (rv_t rfl) ?_
        exact ⟨_, rfl, rfl, H206.below⟩
      · skip
        have hj209 : ¬ opE lk ((sealL lk fr to l) ++ m) = none := fun h => hp194 ((more_iff hb0).1 h)
        refine st (ow_call fn69 rfl (open_err (v0) (v190) (lk) ((sealL lk fr to l) ++ m) _ ((hK.st H192)).nil ((ho193.rd H192 0 rfl)).nil (by first | omega | (simp only [List.length_append, List.length_cons, List.length_nil, List.length_take, List.length_drop, hmac_length, sha_length, List.length_replicate]; omega)) (by first | omega | (simp only [List.length_append, List.length_cons, List.length_nil, List.length_take, List.length_drop, hmac_length, sha_length, List.length_replicate]; omega)) hj209) ⟨rfl, rfl, trivial⟩) ?_
        rintro _ w210 ⟨u211, x212, rfl, hB213⟩
        have H214 : St w [] [E189, [(g176, Rw 31 ([I ((0 : Nat) : Int), I ((0 : Nat) : Int), .slice none 0 0]))], [(g161, Rw 31 ([I ((0 : Nat) : Int), I ((0 : Nat) : Int), .slice none 0 0]))], E47, [(g25, Rw 31 ([I ((opF lk (sealL lk fr to l) : Nat) : Int), I ((opT lk (sealL lk fr to l) : Nat) : Int), v20]))], E21, E9, [(g1, Rw 31 ([I (fr), I (to), bv]))]] w210 := H192.call hB213
        refine sy (v := .tuple #[.agg ([I ((0 : Nat) : Int), I ((0 : Nat) : Int), .slice none 0 0]).toArray, .iface u211 x212]) (y_move rfl) ?_
        refine sy (v := .agg ([I ((0 : Nat) : Int), I ((0 : Nat) : Int), .slice none 0 0]).toArray) (y_extract (i := 0) rfl rfl) ?_
        refine sy (v := .iface u211 x212) (y_extract (i := 1) rfl rfl) ?_
        refine st (ow_alloc (l := [I ((0 : Nat) : Int), I ((0 : Nat) : Int), .slice none 0 0]) H214 zr31 rfl) ?_
        rintro _ w216 ⟨g215, rfl, H217⟩
        refine s0 (ow_storeW (us := [I ((0 : Nat) : Int), I ((0 : Nat) : Int), .slice none 0 0]) H217 sz31 rfl rfl rfl (by simp [Value.oneCell']) (by simp [*])) ?_
        rintro _ w218 H219'
        have H219 : St w [] [[(g215, Rw 31 ([I ((0 : Nat) : Int), I ((0 : Nat) : Int), .slice none 0 0]))], E189, [(g176, Rw 31 ([I ((0 : Nat) : Int), I ((0 : Nat) : Int), .slice none 0 0]))], [(g161, Rw 31 ([I ((0 : Nat) : Int), I ((0 : Nat) : Int), .slice none 0 0]))], E47, [(g25, Rw 31 ([I ((opF lk (sealL lk fr to l) : Nat) : Int), I ((opT lk (sealL lk fr to l) : Nat) : Int), v20]))], E21, E9, [(g1, Rw 31 ([I (fr), I (to), bv]))]] w218 := H219'
        refine sy (v := .iface u211 x212) (y_assign rfl) ?_
        refine c_nil ?_
        refine n_then ?_
        refine c_seq ?_
        refine c_seq ?_
        refine c_reg ?_
        refine sy (v := .iface u157 x158) (y_move rfl) ?_
        refine sy (v := .bool (false)) (y_eqlNil Try.underlying88 rfl) ?_
        refine sy (v := .bool (false)) (y_move rfl) ?_
        refine gno (gv_of (t := 144) rfl rfl rfl) (rfl) ?_
        refine gno (gv_of (t := 144) rfl rfl rfl) (rfl) ?_
        refine sy (v := .bool (false)) (y_pickF (v := .bool (false)) rfl (rfl) rfl) ?_
        refine c_nil ?_
        refine n_then ?_
        refine c_f rfl rfl ?_
        refine wp_skip ?_
        refine n_then ?_
        refine c_seq ?_
        refine c_reg ?_
        refine sy (v := .iface u157 x158) (y_move rfl) ?_
        refine sy (v := .bool (false)) (y_eqlNil Try.underlying88 rfl) ?_
        refine sy (v := .bool (false)) (y_move rfl) ?_
        refine gsy (v := B8 (y)) (gv_of (t := 173) rfl rfl rfl) (rfl) (y_move rfl) ?_
        refine gsy (v := .bool (decide (y ≠ 0))) (gv_of (t := 173) rfl rfl rfl) (rfl) (y_neq8 (a := y) (b := 0) rfl rfl) ?_
        refine sy (v := .bool (decide (y ≠ 0))) (y_pickF rfl (rfl) rfl) ?_
        refine sy (v := .bool (decide (y ≠ 0))) (y_move rfl) ?_
        have hq220 : y ≠ 0 := (y_ne hb0 hp52)
        refine gsy (v := .iface u172 x173) (gv_of (t := 177) rfl rfl rfl) (decide_eq_true hq220) (y_move rfl) ?_
        refine gsy (v := .bool (true)) (gv_of (t := 177) rfl rfl rfl) (decide_eq_true hq220) (y_neqNil Try.underlying88 rfl) ?_
        refine sy (v := .bool (true)) (y_pickT rfl (decide_eq_true hq220) rfl) ?_
        refine sy (v := .bool (true)) (y_move rfl) ?_
        refine gsy (v := .iface u211 x212) (gv_of (t := 181) rfl rfl rfl) (rfl) (y_move rfl) ?_
        refine gsy (v := .bool (false)) (gv_of (t := 181) rfl rfl rfl) (rfl) (y_eqlNil Try.underlying88 rfl) ?_
        refine gsy (v := v5) (gv_of (t := 181) rfl rfl rfl) (rfl) (y_move rfl) ?_
        refine gsy (v := I ((m.length : Nat) : Int)) (gv_of (t := 181) rfl rfl rfl) (rfl) (y_lenR Try.underlying23 (hM.st H219) rfl) ?_
        refine gsy (v := .bool (decide (m.length = 0))) (gv_of (t := 181) rfl rfl rfl) (rfl) (n_eql (a := m.length) (b := 0) rfl rfl) ?_
        have e221 : ((false) == (decide (m.length = 0))) = true := by rw [decide_eq_false (fun h => hp194 (List.eq_nil_of_length_eq_zero h))]; rfl
        refine gsy (v := .bool (true)) (gv_of (t := 181) rfl rfl rfl) (rfl) ((e221 ▸ y_eqlB (p := false) (q := decide (m.length = 0)) rfl rfl Try.underlying4)) ?_
        refine sy (v := .bool (true)) (y_pickT rfl (rfl) rfl) ?_
        refine sy (v := .bool (true)) (y_assign rfl) ?_
        refine c_nil ?_
        refine n_then ?_
        refine wp_ret ?_
        refine e_r1 Try.results14 (rv_t rfl) ?_
        exact ⟨_, rfl, rfl, H219.below⟩

end Go.Proofs.Ytdcmbcjkdhdohaa
