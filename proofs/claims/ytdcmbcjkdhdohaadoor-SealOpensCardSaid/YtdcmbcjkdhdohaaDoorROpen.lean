/- Walks: same, the reference's Open. -/
import Derived.Test.YtdcmbcjkdhdohaaDoorOpen1
namespace Go.Proofs.YtdcmbcjkdhdohaaDoor
open Go Go.RowKit
set_option linter.unusedSimpArgs false
set_option linter.unusedVariables false
attribute [local irreducible] wpList wpP Code.wp

/-- The error's number, and the place that is told. -/
def erN : Option (Nat × Option Nat) → Nat
  | none => 0
  | some (e, _) => e
def plN : Option (Nat × Option Nat) → Int
  | none => 0
  | some (_, none) => -1
  | some (_, some i) => (i : Int)
/-- What is wrong with the first six bytes, from byte i on. -/
def hdC (b : List UInt8) : Nat → Nat → Option (Nat × Nat)
  | 0, _ => none
  | k + 1, i => if b.length ≤ i then some (20, i) else if i < 4 ∧ b.getD i 0 ≠ markL.getD i 0 then some (5, i) else if 4 ≤ i ∧ ¬ repl ((b.getD i 0).toNat : Int) then some (1, i) else hdC b k (i + 1)
section
variable {b lk : List UInt8} {i k : Nat}
theorem hdC_len (h : b.length ≤ i) : hdC b (k + 1) i = some (20, i) := by simp only [hdC]; rw [if_pos h]
theorem hdC_m (h : ¬ b.length ≤ i) (h1 : i < 4) (h2 : b.getD i 0 ≠ markL.getD i 0) : hdC b (k + 1) i = some (5, i) := by simp only [hdC]; rw [if_neg h, if_pos ⟨h1, h2⟩]
theorem hdC_r (h : ¬ b.length ≤ i) (h1 : ¬ i < 4) (h2 : ¬ repl ((b.getD i 0).toNat : Int)) : hdC b (k + 1) i = some (1, i) := by simp only [hdC]; rw [if_neg h, if_neg (fun h => h1 h.1), if_pos ⟨by omega, h2⟩]
theorem hdC_goM (h : ¬ b.length ≤ i) (h1 : i < 4) (h2 : ¬ b.getD i 0 ≠ markL.getD i 0) : hdC b (k + 1) i = hdC b k (i + 1) := by simp only [hdC]; rw [if_neg h, if_neg (fun h => h2 h.2), if_neg (fun h => by omega)]
theorem hdC_goR (h : ¬ b.length ≤ i) (h1 : ¬ i < 4) (h2 : ¬ ¬ repl ((b.getD i 0).toNat : Int)) : hdC b (k + 1) i = hdC b k (i + 1) := by simp only [hdC]; rw [if_neg h, if_neg (fun h => h1 h.1), if_neg (fun h => h2 h.2)]
theorem hdC_mk : ∀ (k i m : Nat), i + k = 4 → hdC b (k + m) i = match hdM b k i with | some e => some e | none => hdC b m 4
  | 0, i, m, h => by obtain rfl : i = 4 := by omega
                     rw [Nat.zero_add]; rfl
  | k + 1, i, m, h => by
    rw [show k + 1 + m = (k + m) + 1 by omega]
    by_cases h1 : b.length ≤ i
    · rw [hdC_len h1, hdM_len h1]
    · by_cases h2 : b.getD i 0 ≠ markL.getD i 0
      · rw [hdC_m h1 (by omega) h2, hdM_bad h1 h2]
      · rw [hdC_goM h1 (by omega) h2, hdM_go h1 h2]; exact hdC_mk k (i + 1) m (by omega)
theorem hdC_rk : ∀ (k i : Nat), 4 ≤ i → hdC b k i = hdR b k i
  | 0, i, h => rfl
  | k + 1, i, h => by
    by_cases h1 : b.length ≤ i
    · rw [hdC_len h1, hdR_len h1]
    · by_cases h2 : ¬ repl ((b.getD i 0).toNat : Int)
      · rw [hdC_r h1 (by omega) h2, hdR_bad h1 h2]
      · rw [hdC_goR h1 (by omega) h2, hdR_go h1 h2]; exact hdC_rk k (i + 1) (by omega)
theorem hdC_some {e : Nat × Nat} (h : hdC b 6 0 = some e) : hdE b = some e := by
  have h1 := hdC_mk (b := b) 4 0 2 rfl
  rw [h, hdC_rk 2 4 (by omega)] at h1
  cases h2 : hdM b 4 0 with
  | some x => rw [h2] at h1; exact (hdE_m h2).trans h1.symm
  | none => rw [h2] at h1; exact (hdE_r h2 h1.symm)
theorem hdC_none (h : hdC b 6 0 = none) : hdM b 4 0 = none ∧ hdR b 2 4 = none := by
  have h1 := hdC_mk (b := b) 4 0 2 rfl
  rw [h, hdC_rk 2 4 (by omega)] at h1
  cases h2 : hdM b 4 0 with
  | some x => rw [h2] at h1; cases h1
  | none => rw [h2] at h1; exact ⟨rfl, h1.symm⟩
theorem mac_ne {m : List UInt8} {n j : Nat} (h : b.getD (n + 10 + j) 0 ≠ m.getD j 0) : b.drop (10 + n) ≠ m := by
  intro e
  apply h
  rw [← e, List.getD_eq_getElem?_getD, List.getD_eq_getElem?_getD, List.getElem?_drop, show 10 + n + j = n + 10 + j by omega]
theorem mac_eq {m : List UInt8} {n : Nat} (hm : m.length = 32) (hl : b.length = n + 42) (h : ∀ t, t < 32 → b.getD (n + 10 + t) 0 = m.getD t 0) : b.drop (10 + n) = m := by
  apply List.ext_getElem (by rw [List.length_drop]; omega)
  intro t h1 h2
  have h3 := h t (by omega)
  rw [List.getD_eq_getElem?_getD, List.getD_eq_getElem?_getD, List.getElem?_eq_getElem (by omega), List.getElem?_eq_getElem h2] at h3
  rw [List.getElem_drop]
  simp only [Option.getD_some] at h3
  rw [← h3]; congr 1; omega
end

theorem same_c (v0 v1 : Value) (a b : List UInt8) (w : World) (h0 : Rd [] w 1 v0 a.length (a.map B8)) (h1 : Rd [] w 1 v1 b.length (b.map B8)) :
    Calls Tryd.prog 10 (([v0, v1] : List Value).toArray) w (fun e w' => ∃ v, e = .returned v ∧ v = .bool (decide (a = b)) ∧ Below w.heap.size w w') := by
 refine calls_mk Tryd.func10 rfl 10 Tryd.ntmps10 rfl ?_
 have H0 : St w [] [] w := St.refl w
 refine c_seq ?_
 refine c_reg ?_
 refine sy (v := .bool (false)) (y_assign (v := .bool (false)) rfl) ?_
 refine c_nil ?_
 refine n_then ?_
 refine c_seq ?_
 refine c_reg ?_
 refine sy (v := v0) (y_move rfl) ?_
 refine sy (v := .string (bst a)) (y_str Tryd.underlying22 Tryd.underlying5 Tryd.underlying9 (h0.st H0) rfl) ?_
 refine sy (v := v1) (y_move rfl) ?_
 refine sy (v := .string (bst b)) (y_str Tryd.underlying22 Tryd.underlying5 Tryd.underlying9 (h1.st H0) rfl) ?_
 refine sy (v := .bool (decide (a = b))) (y_eqlS (a := a) (b := b) rfl rfl) ?_
 refine sy (v := .bool (decide (a = b))) (y_assign rfl) ?_
 refine c_nil ?_
 refine n_then ?_
 refine wp_ret ?_
 refine e_r1 Tryd.results10 (rv_t rfl) ?_
 exact ⟨_, rfl, rfl, H0.below⟩

set_option maxHeartbeats 2000000 in
theorem ropen_c (v0 v1 : Value) (lk b : List UInt8) (w : World) (hK : Rd [] w 1 v0 lk.length (lk.map B8)) (hR : Rd [] w 1 v1 b.length (b.map B8)) (hlk : lk.length ≤ 140737488351232) (hb : b.length ≤ 140737488351232) :
    Calls Tryd.prog 6 (([v0, v1] : List Value).toArray) w (fun e w' => ∃ v, e = .returned v ∧ ∃ bv EB, v = .tuple #[.agg ([I ((opF lk b : Nat) : Int), I ((opT lk b : Nat) : Int), bv] : List Value).toArray, I ((erN (opE lk b) : Nat) : Int), I (plN (opE lk b))] ∧ OS 5 1 bv (opB lk b).length ((opB lk b).map B8) EB ∧ St w [] [EB] w') := by
 have hm4 : markL.length = 4 := rfl
 refine calls_mk Tryd.func6 rfl 142 Tryd.ntmps6 rfl ?_
 have H0 : St w [] [] w := St.refl w
 refine c_seq ?_
 refine c_reg ?_
 refine st (ow_alloc (l := [I ((0 : Nat) : Int), I ((0 : Nat) : Int), .slice none 0 0]) H0 zr26 rfl) ?_
 rintro _ w2 ⟨g1, rfl, H3⟩
 refine sy (v := I ((0 : Nat) : Int)) (y_assign (v := I ((0 : Nat) : Int)) rfl) ?_
 refine sy (v := I ((0 : Nat) : Int)) (y_assign (v := I ((0 : Nat) : Int)) rfl) ?_
 refine c_nil ?_
 refine n_then ?_
 refine c_seq ?_
 refine c_seq ?_
 refine c_reg ?_
 refine sy (v := v0) (y_move rfl) ?_
 refine sy (v := I ((lk.length : Nat) : Int)) (y_lenR Tryd.underlying22 (hK.st H3) rfl) ?_
 refine sy (v := .bool (decide (lk.length ≠ 32))) (n_neq (a := lk.length) (b := 32) rfl rfl) ?_
 refine c_nil ?_
 refine n_then ?_
 refine c_if rfl (fun hc4 => ?_) (fun hc4 => ?_)
 ·
  refine c_seq ?_
  refine c_reg ?_
  refine sy (v := .agg ([I ((0 : Nat) : Int), I ((0 : Nat) : Int), .slice none 0 0]).toArray) (y_build (parts := []) (pv := []) (us := [I ((0 : Nat) : Int), I ((0 : Nat) : Int), .slice none 0 0]) trivial (by kernel_rfl)) ?_
  refine s0 (ow_storeW (us := [I ((0 : Nat) : Int), I ((0 : Nat) : Int), .slice none 0 0]) H3 sz26 rfl rfl rfl (by simp [Value.oneCell']) (by simp [*])) ?_
  rintro _ w5 H6'
  have H6 : St w _ [[(g1, Rw 26 ([I ((0 : Nat) : Int), I ((0 : Nat) : Int), .slice none 0 0]))]] w5 := H6'
  refine sy (v := I ((1 : Nat) : Int)) (y_assign (v := I ((1 : Nat) : Int)) rfl) ?_
  refine sy (v := I (-1)) (y_assign (v := I (-1)) rfl) ?_
  refine c_nil ?_
  refine n_then ?_
  refine wp_ret ?_
  refine r_then ?_
  refine e_r3 Tryd.results6 (rv_b H6 (i := 0) rfl ag26 sz26 rfl rfl) (rv_t rfl) (rv_t rfl) ?_
  have he : ∃ q, opE lk b = some (1, q) ∧ plN (some (1, q)) = -1 := by
   first
    | exact ⟨_, opE_k (by assumption), rfl⟩
    | exact ⟨_, opE_h (by omega) (hdC_some (hfc.trans (by rw [sub_succ (by omega)]; exact hdC_len (by assumption)))), rfl⟩
    | exact ⟨_, opE_h (by omega) (hdC_some (hfc.trans (by rw [sub_succ (by omega)]; exact hdC_m (by assumption) (by assumption) (by assumption)))), rfl⟩
    | exact ⟨_, opE_h (by omega) (hdC_some (hfc.trans (by rw [sub_succ (by omega)]; exact hdC_r (by assumption) (by assumption) (by assumption)))), rfl⟩
    | exact ⟨_, opE_h (by omega) (hdE_s hM hRn (by omega)), rfl⟩
    | exact ⟨_, opE_h (by omega) (hdE_o hM hRn (by omega) (by omega)), rfl⟩
    | exact ⟨_, opE_s (by omega) (hdE_k hM hRn (by omega) (by omega)) (by omega), rfl⟩
    | exact ⟨_, opE_r (by omega) (hdE_k hM hRn (by omega) (by omega)) (by omega) (by omega), rfl⟩
    | exact ⟨_, opE_m (by omega) (hdE_k hM hRn (by omega) (by omega)) (by omega) (by omega) (by rw [Nat.add_comm 10 (hdN b)]; rw [Nat.add_comm (hdN b) 10]; exact mac_ne (by rw [Nat.add_comm 10 (hdN b)]; assumption)), by show ((10 + hdN b : Nat) : Int) = _; omega⟩
  obtain ⟨q9, he, hp9⟩ := he
  have hn : ¬ opE lk b = none := by rw [he]; simp
  have hv0 : opF lk b = 0 := by rw [opF, if_neg hn]
  have hv1 : opT lk b = 0 := by rw [opT, if_neg hn]
  exact ⟨_, rfl, .slice none 0 0, [], by rw [hv0, hv1, he, hp9]; rfl, by rw [opB, if_neg hn]; exact OS.nil 5 1, H6.none.nilp⟩
 ·
  refine wp_skip ?_
  refine n_then ?_
  refine c_seq ?_
  refine c_reg ?_
  refine st (ow_buildSlice (pv := [(0, B8 (80)), (1, B8 (76)), (2, B8 (69)), (3, B8 (49))]) (us := [B8 (80), B8 (76), B8 (69), B8 (49)]) Tryd.underlying22 sz5 zr5 H3 ⟨⟨rfl, rfl⟩, ⟨rfl, rfl⟩, ⟨rfl, rfl⟩, ⟨rfl, rfl⟩, trivial⟩ (by decide) (by kernel_rfl)) ?_
  rintro _ w8 ⟨g7, rfl, H9⟩
  refine sy (v := .slice (some (bs g7)) 4 4) (y_assign rfl) ?_
  refine c_nil ?_
  refine n_then ?_
  refine c_seq ?_
  refine c_seq ?_
  have H10 : St w _ [_, _] w8 := H9
  refine c_reg ?_
  refine sy (v := I ((0 : Nat) : Int)) (y_assign (v := I ((0 : Nat) : Int)) rfl) ?_
  refine c_nil ?_
  refine n_then ?_
  refine wp_block ?_
  refine c_loop (fun (i : Nat) f11 w12 => f11 0 = v0 ∧ f11 1 = v1 ∧ f11 4 = Ad (bs g1) (0) ∧ f11 7 = .slice (some (bs g7)) 4 4 ∧ f11 8 = I ((i : Nat) : Int) ∧ i ≤ 6 ∧ hdC b 6 0 = hdC b (6 - i) i ∧ St w [] [[(g7, Rw 5 ((markL).map B8))], [(g1, Rw 26 ([I ((0 : Nat) : Int), I ((0 : Nat) : Int), .slice none 0 0]))]] w12) (fun i => 6 - i) 0 ⟨rfl, rfl, rfl, rfl, rfl, (by omega), rfl, H10⟩ ?_
  rintro i f11 w12 ⟨s0_13, s1_13, s4_13, s7_13, s8_13, hi, hfc, H13⟩
  refine c_seq ?_
  refine c_seq ?_
  refine c_reg ?_
  refine sy (v := I ((i : Nat) : Int)) (y_move s8_13) ?_
  refine sy (v := .bool (decide (i < 6))) (n_lss (a := i) (b := 6) rfl rfl) ?_
  refine c_nil ?_
  refine n_then ?_
  refine c_if rfl (fun hc14 => ?_) (fun hc14 => ?_)
  ·
   refine wp_skip ?_
   refine n_then ?_
   refine c_seq ?_
   refine wp_block ?_
   refine c_seq ?_
   refine c_seq ?_
   refine c_reg ?_
   refine sy (v := I ((i : Nat) : Int)) (y_move s8_13) ?_
   refine sy (v := v1) (y_move s1_13) ?_
   refine sy (v := I ((b.length : Nat) : Int)) (y_lenR Tryd.underlying22 (hR.st H13) rfl) ?_
   refine sy (v := .bool (decide (b.length ≤ i))) (n_geq (a := i) (b := b.length) rfl rfl) ?_
   refine c_nil ?_
   refine n_then ?_
   refine c_if rfl (fun hc15 => ?_) (fun hc15 => ?_)
   ·
    refine c_seq ?_
    refine c_reg ?_
    refine sy (v := .agg ([I ((0 : Nat) : Int), I ((0 : Nat) : Int), .slice none 0 0]).toArray) (y_build (parts := []) (pv := []) (us := [I ((0 : Nat) : Int), I ((0 : Nat) : Int), .slice none 0 0]) trivial (by kernel_rfl)) ?_
    refine sy (v := I ((i : Nat) : Int)) (y_move s8_13) ?_
    have H16 : St w _ [_, _] w12 := H13.foc 1 rfl rfl
    refine s0 (ow_storeW (us := [I ((0 : Nat) : Int), I ((0 : Nat) : Int), .slice none 0 0]) H16 sz26 rfl s4_13 rfl (by simp [Value.oneCell']) (by simp [*])) ?_
    rintro _ w17 H18'
    have H18 : St w _ [[(g1, Rw 26 ([I ((0 : Nat) : Int), I ((0 : Nat) : Int), .slice none 0 0]))], _] w17 := H18'
    refine sy (v := I ((20 : Nat) : Int)) (y_assign (v := I ((20 : Nat) : Int)) rfl) ?_
    refine sy (v := I ((i : Nat) : Int)) (y_assign rfl) ?_
    refine c_nil ?_
    refine n_then ?_
    refine wp_ret ?_
    refine r_then (r_block (r_then (r_then (r_block (r_then ?_)))))
    refine e_r3 Tryd.results6 (rv_b H18 (i := 0) rfl ag26 sz26 rfl s4_13) (rv_t rfl) (rv_t rfl) ?_
    have he : ∃ q, opE lk b = some (20, q) ∧ plN (some (20, q)) = ((i : Nat) : Int) := by
     first
      | exact ⟨_, opE_k (by assumption), rfl⟩
      | exact ⟨_, opE_h (by omega) (hdC_some (hfc.trans (by rw [sub_succ (by omega)]; exact hdC_len (by assumption)))), rfl⟩
      | exact ⟨_, opE_h (by omega) (hdC_some (hfc.trans (by rw [sub_succ (by omega)]; exact hdC_m (by assumption) (by assumption) (by assumption)))), rfl⟩
      | exact ⟨_, opE_h (by omega) (hdC_some (hfc.trans (by rw [sub_succ (by omega)]; exact hdC_r (by assumption) (by assumption) (by assumption)))), rfl⟩
      | exact ⟨_, opE_h (by omega) (hdE_s hM hRn (by omega)), rfl⟩
      | exact ⟨_, opE_h (by omega) (hdE_o hM hRn (by omega) (by omega)), rfl⟩
      | exact ⟨_, opE_s (by omega) (hdE_k hM hRn (by omega) (by omega)) (by omega), rfl⟩
      | exact ⟨_, opE_r (by omega) (hdE_k hM hRn (by omega) (by omega)) (by omega) (by omega), rfl⟩
      | exact ⟨_, opE_m (by omega) (hdE_k hM hRn (by omega) (by omega)) (by omega) (by omega) (by rw [Nat.add_comm 10 (hdN b)]; rw [Nat.add_comm (hdN b) 10]; exact mac_ne (by rw [Nat.add_comm 10 (hdN b)]; assumption)), by show ((10 + hdN b : Nat) : Int) = _; omega⟩
    obtain ⟨q9, he, hp9⟩ := he
    have hn : ¬ opE lk b = none := by rw [he]; simp
    have hv0 : opF lk b = 0 := by rw [opF, if_neg hn]
    have hv1 : opT lk b = 0 := by rw [opT, if_neg hn]
    exact ⟨_, rfl, .slice none 0 0, [], by rw [hv0, hv1, he, hp9]; rfl, by rw [opB, if_neg hn]; exact OS.nil 5 1, H18.none.nilp⟩
   ·
    refine wp_skip ?_
    refine n_then ?_
    refine c_seq ?_
    refine c_seq ?_
    refine drawS (.step 0 0 (.step 0 1 (.step 0 2 (.step 0 3 (.step 0 4 (.step 0 5 (.step 0 6 (.step 0 7 (.step 0 8 (.step 0 9 (.step 0 10 (.step 0 11 (.step 0 12 .nil))))))))))))) mixed H13 (by kernel_rfl) (by kernel_rfl) (by kernel_rfl) ?_
    intro w19 H20
    refine pt (v := I ((i : Nat) : Int)) rfl (fun wS HS => y_move s8_13) ?_
    refine pt (v := .bool (decide (i < 4))) rfl (fun wS HS => n_lss (a := i) (b := 4) rfl rfl) ?_
    refine pt (v := .bool (decide (i < 4))) rfl (fun wS HS => y_move rfl) ?_
    by_cases hp21 : i < 4
    ·
     refine gpt (v := v1) rfl (gv_of (t := 30) rfl rfl rfl) (decide_eq_true hp21) (fun wS HS => y_move s1_13) ?_
     refine gpt (v := I ((i : Nat) : Int)) rfl (gv_of (t := 30) rfl rfl rfl) (decide_eq_true hp21) (fun wS HS => y_move s8_13) ?_
     refine gpt (v := Ad (sp (v1)) (i * 1)) rfl (gv_of (t := 30) rfl rfl rfl) (decide_eq_true hp21) (fun wS HS => y_ixR (m := i) Tryd.underlying22 sz5 (hR.st HS) (by decide) rfl rfl rfl (by omega)) ?_
     refine gpt (v := B8 (b.getD i 0)) rfl (gv_of (t := 30) rfl rfl rfl) (decide_eq_true hp21) (fun wS HS => y_load sc5 rfl ((hR.st HS).cell _ _ (by rw [Nat.mul_one]; exact map_get B8 (l := b) (k := i) 0 (by omega)))) ?_
     refine gpt (v := .slice (some (bs g7)) 4 4) rfl (gv_of (t := 30) rfl rfl rfl) (decide_eq_true hp21) (fun wS HS => y_move s7_13) ?_
     refine gpt (v := I ((i : Nat) : Int)) rfl (gv_of (t := 30) rfl rfl rfl) (decide_eq_true hp21) (fun wS HS => y_move s8_13) ?_
     refine gpt (v := Ad (bs g7) (i * 1)) rfl (gv_of (t := 30) rfl rfl rfl) (decide_eq_true hp21) (fun wS HS => y_ixS (m := i) Tryd.underlying22 sz5 rfl rfl rfl (by omega)) ?_
     refine gpt (v := B8 (markL.getD i 0)) rfl (gv_of (t := 30) rfl rfl rfl) (decide_eq_true hp21) (fun wS HS => y_load sc5 rfl (HS.cell 0 rfl (by simp only [Nat.zero_add, Nat.mul_one]; exact map_get B8 0 (by omega)))) ?_
     refine gpt (v := .bool (decide ((b.getD i 0) ≠ (markL.getD i 0)))) rfl (gv_of (t := 30) rfl rfl rfl) (decide_eq_true hp21) (fun wS HS => y_neq8 (a := b.getD i 0) (b := markL.getD i 0) rfl rfl) ?_
     refine pt (v := .bool (decide ((b.getD i 0) ≠ (markL.getD i 0)))) rfl (fun wS HS => y_pickT rfl (decide_eq_true hp21) rfl) ?_
     refine p_nil ?_
     refine n_then ?_
     refine c_if rfl (fun hc22 => ?_) (fun hc22 => ?_)
     ·
      refine c_seq ?_
      refine c_reg ?_
      refine sy (v := .agg ([I ((0 : Nat) : Int), I ((0 : Nat) : Int), .slice none 0 0]).toArray) (y_build (parts := []) (pv := []) (us := [I ((0 : Nat) : Int), I ((0 : Nat) : Int), .slice none 0 0]) trivial (by kernel_rfl)) ?_
      refine sy (v := I ((i : Nat) : Int)) (y_move s8_13) ?_
      have H23 : St w _ [_, _] w19 := H20.foc 1 rfl rfl
      refine s0 (ow_storeW (us := [I ((0 : Nat) : Int), I ((0 : Nat) : Int), .slice none 0 0]) H23 sz26 rfl s4_13 rfl (by simp [Value.oneCell']) (by simp [*])) ?_
      rintro _ w24 H25'
      have H25 : St w _ [[(g1, Rw 26 ([I ((0 : Nat) : Int), I ((0 : Nat) : Int), .slice none 0 0]))], _] w24 := H25'
      refine sy (v := I ((5 : Nat) : Int)) (y_assign (v := I ((5 : Nat) : Int)) rfl) ?_
      refine sy (v := I ((i : Nat) : Int)) (y_assign rfl) ?_
      refine c_nil ?_
      refine n_then ?_
      refine wp_ret ?_
      refine r_then (r_block (r_then (r_then (r_block (r_then ?_)))))
      refine e_r3 Tryd.results6 (rv_b H25 (i := 0) rfl ag26 sz26 rfl s4_13) (rv_t rfl) (rv_t rfl) ?_
      have he : ∃ q, opE lk b = some (5, q) ∧ plN (some (5, q)) = ((i : Nat) : Int) := by
       first
        | exact ⟨_, opE_k (by assumption), rfl⟩
        | exact ⟨_, opE_h (by omega) (hdC_some (hfc.trans (by rw [sub_succ (by omega)]; exact hdC_len (by assumption)))), rfl⟩
        | exact ⟨_, opE_h (by omega) (hdC_some (hfc.trans (by rw [sub_succ (by omega)]; exact hdC_m (by assumption) (by assumption) (by assumption)))), rfl⟩
        | exact ⟨_, opE_h (by omega) (hdC_some (hfc.trans (by rw [sub_succ (by omega)]; exact hdC_r (by assumption) (by assumption) (by assumption)))), rfl⟩
        | exact ⟨_, opE_h (by omega) (hdE_s hM hRn (by omega)), rfl⟩
        | exact ⟨_, opE_h (by omega) (hdE_o hM hRn (by omega) (by omega)), rfl⟩
        | exact ⟨_, opE_s (by omega) (hdE_k hM hRn (by omega) (by omega)) (by omega), rfl⟩
        | exact ⟨_, opE_r (by omega) (hdE_k hM hRn (by omega) (by omega)) (by omega) (by omega), rfl⟩
        | exact ⟨_, opE_m (by omega) (hdE_k hM hRn (by omega) (by omega)) (by omega) (by omega) (by rw [Nat.add_comm 10 (hdN b)]; rw [Nat.add_comm (hdN b) 10]; exact mac_ne (by rw [Nat.add_comm 10 (hdN b)]; assumption)), by show ((10 + hdN b : Nat) : Int) = _; omega⟩
      obtain ⟨q9, he, hp9⟩ := he
      have hn : ¬ opE lk b = none := by rw [he]; simp
      have hv0 : opF lk b = 0 := by rw [opF, if_neg hn]
      have hv1 : opT lk b = 0 := by rw [opT, if_neg hn]
      exact ⟨_, rfl, .slice none 0 0, [], by rw [hv0, hv1, he, hp9]; rfl, by rw [opB, if_neg hn]; exact OS.nil 5 1, H25.none.nilp⟩
     ·
      refine wp_skip ?_
      refine n_then ?_
      refine c_seq ?_
      refine c_reg ?_
      refine sy (v := v1) (y_move s1_13) ?_
      refine sy (v := I ((i : Nat) : Int)) (y_move s8_13) ?_
      refine sy (v := Ad (sp (v1)) (i * 1)) (y_ixR (m := i) Tryd.underlying22 sz5 (hR.st H20) (by decide) rfl rfl rfl (by omega)) ?_
      refine sy (v := B8 (b.getD i 0)) (y_load sc5 rfl ((hR.st H20).cell _ _ (by rw [Nat.mul_one]; exact map_get B8 (l := b) (k := i) 0 (by omega)))) ?_
      refine sy (v := I (((b.getD i 0).toNat : Nat) : Int)) (y_conv_8_I Tryd.underlying5 Tryd.underlying3 rfl) ?_
      refine st (ow_call fn14 rfl (rrepl_c ((((b.getD i 0).toNat : Nat) : Int)) _) ⟨rfl, trivial⟩) ?_
      rintro _ w26 ⟨rfl, hB27⟩
      have H28 : St w _ [_, _] w26 := H20.call hB27
      refine sy (v := .bool (decide (repl ((((b.getD i 0).toNat : Nat) : Int))))) (y_assign rfl) ?_
      refine c_nil ?_
      refine n_then ?_
      refine c_seq ?_
      refine c_reg ?_
      refine sy (v := I ((i : Nat) : Int)) (y_move s8_13) ?_
      refine sy (v := .bool (decide (4 ≤ i))) (n_geq (a := i) (b := 4) rfl rfl) ?_
      refine sy (v := .bool (decide (4 ≤ i))) (y_move rfl) ?_
      have hq29 : ¬ (4 ≤ i) := (by omega)
      refine gno (gv_of (t := 51) rfl rfl rfl) (decide_eq_false hq29) ?_
      refine gno (gv_of (t := 51) rfl rfl rfl) (decide_eq_false hq29) ?_
      refine sy (v := .bool (false)) (y_pickF (v := .bool (false)) rfl (decide_eq_false hq29) rfl) ?_
      refine c_nil ?_
      refine n_then ?_
      refine c_f rfl rfl ?_
      refine wp_skip ?_
      refine n_block (n_then ?_)
      refine c_reg ?_
      refine sy (v := I ((i : Nat) : Int)) (y_move s8_13) ?_
      refine sy (v := I ((i + 1 : Nat) : Int)) (n_add (a := i) (b := 1) rfl rfl (by omega)) ?_
      refine sy (v := I ((i + 1 : Nat) : Int)) (y_assign rfl) ?_
      refine c_nil ?_
      exact lp_next (i + 1) ⟨s0_13, s1_13, s4_13, s7_13, rfl, (by omega), (hfc.trans (by rw [sub_succ (by omega)]; first | exact hdC_goM (by assumption) (by assumption) (by assumption) | exact hdC_goR (by assumption) (by assumption) (by assumption))), H28⟩ (by show _ < _; omega)
    ·
     refine gpno rfl (gv_of (t := 30) rfl rfl rfl) (decide_eq_false hp21) ?_
     refine gpno rfl (gv_of (t := 30) rfl rfl rfl) (decide_eq_false hp21) ?_
     refine gpno rfl (gv_of (t := 30) rfl rfl rfl) (decide_eq_false hp21) ?_
     refine gpno rfl (gv_of (t := 30) rfl rfl rfl) (decide_eq_false hp21) ?_
     refine gpno rfl (gv_of (t := 30) rfl rfl rfl) (decide_eq_false hp21) ?_
     refine gpno rfl (gv_of (t := 30) rfl rfl rfl) (decide_eq_false hp21) ?_
     refine gpno rfl (gv_of (t := 30) rfl rfl rfl) (decide_eq_false hp21) ?_
     refine gpno rfl (gv_of (t := 30) rfl rfl rfl) (decide_eq_false hp21) ?_
     refine gpno rfl (gv_of (t := 30) rfl rfl rfl) (decide_eq_false hp21) ?_
     refine pt (v := .bool (false)) rfl (fun wS HS => y_pickF (v := .bool (false)) rfl (decide_eq_false hp21) rfl) ?_
     refine p_nil ?_
     refine n_then ?_
     refine c_f rfl rfl ?_
     refine wp_skip ?_
     refine n_then ?_
     refine c_seq ?_
     refine c_reg ?_
     refine sy (v := v1) (y_move s1_13) ?_
     refine sy (v := I ((i : Nat) : Int)) (y_move s8_13) ?_
     refine sy (v := Ad (sp (v1)) (i * 1)) (y_ixR (m := i) Tryd.underlying22 sz5 (hR.st H20) (by decide) rfl rfl rfl (by omega)) ?_
     refine sy (v := B8 (b.getD i 0)) (y_load sc5 rfl ((hR.st H20).cell _ _ (by rw [Nat.mul_one]; exact map_get B8 (l := b) (k := i) 0 (by omega)))) ?_
     refine sy (v := I (((b.getD i 0).toNat : Nat) : Int)) (y_conv_8_I Tryd.underlying5 Tryd.underlying3 rfl) ?_
     refine st (ow_call fn14 rfl (rrepl_c ((((b.getD i 0).toNat : Nat) : Int)) _) ⟨rfl, trivial⟩) ?_
     rintro _ w30 ⟨rfl, hB31⟩
     have H32 : St w _ [_, _] w30 := H20.call hB31
     refine sy (v := .bool (decide (repl ((((b.getD i 0).toNat : Nat) : Int))))) (y_assign rfl) ?_
     refine c_nil ?_
     refine n_then ?_
     refine c_seq ?_
     refine c_reg ?_
     refine sy (v := I ((i : Nat) : Int)) (y_move s8_13) ?_
     refine sy (v := .bool (decide (4 ≤ i))) (n_geq (a := i) (b := 4) rfl rfl) ?_
     refine sy (v := .bool (decide (4 ≤ i))) (y_move rfl) ?_
     have hq33 : 4 ≤ i := (by omega)
     refine gsy (v := .bool (decide (repl ((((b.getD i 0).toNat : Nat) : Int))))) (gv_of (t := 51) rfl rfl rfl) (decide_eq_true hq33) (y_move rfl) ?_
     refine gsy (v := .bool (decide (¬ (repl ((((b.getD i 0).toNat : Nat) : Int)))))) (gv_of (t := 51) rfl rfl rfl) (decide_eq_true hq33) (y_notP rfl) ?_
     refine sy (v := .bool (decide (¬ (repl ((((b.getD i 0).toNat : Nat) : Int)))))) (y_pickT rfl (decide_eq_true hq33) rfl) ?_
     refine c_nil ?_
     refine n_then ?_
     refine c_if rfl (fun hc34 => ?_) (fun hc34 => ?_)
     ·
      refine c_seq ?_
      refine c_reg ?_
      refine sy (v := .agg ([I ((0 : Nat) : Int), I ((0 : Nat) : Int), .slice none 0 0]).toArray) (y_build (parts := []) (pv := []) (us := [I ((0 : Nat) : Int), I ((0 : Nat) : Int), .slice none 0 0]) trivial (by kernel_rfl)) ?_
      refine sy (v := I ((i : Nat) : Int)) (y_move s8_13) ?_
      have H35 : St w _ [_, _] w30 := H32.foc 1 rfl rfl
      refine s0 (ow_storeW (us := [I ((0 : Nat) : Int), I ((0 : Nat) : Int), .slice none 0 0]) H35 sz26 rfl s4_13 rfl (by simp [Value.oneCell']) (by simp [*])) ?_
      rintro _ w36 H37'
      have H37 : St w _ [[(g1, Rw 26 ([I ((0 : Nat) : Int), I ((0 : Nat) : Int), .slice none 0 0]))], _] w36 := H37'
      refine sy (v := I ((1 : Nat) : Int)) (y_assign (v := I ((1 : Nat) : Int)) rfl) ?_
      refine sy (v := I ((i : Nat) : Int)) (y_assign rfl) ?_
      refine c_nil ?_
      refine n_then ?_
      refine wp_ret ?_
      refine r_block (r_then (r_then (r_block (r_then ?_))))
      refine e_r3 Tryd.results6 (rv_b H37 (i := 0) rfl ag26 sz26 rfl s4_13) (rv_t rfl) (rv_t rfl) ?_
      have he : ∃ q, opE lk b = some (1, q) ∧ plN (some (1, q)) = ((i : Nat) : Int) := by
       first
        | exact ⟨_, opE_k (by assumption), rfl⟩
        | exact ⟨_, opE_h (by omega) (hdC_some (hfc.trans (by rw [sub_succ (by omega)]; exact hdC_len (by assumption)))), rfl⟩
        | exact ⟨_, opE_h (by omega) (hdC_some (hfc.trans (by rw [sub_succ (by omega)]; exact hdC_m (by assumption) (by assumption) (by assumption)))), rfl⟩
        | exact ⟨_, opE_h (by omega) (hdC_some (hfc.trans (by rw [sub_succ (by omega)]; exact hdC_r (by assumption) (by assumption) (by assumption)))), rfl⟩
        | exact ⟨_, opE_h (by omega) (hdE_s hM hRn (by omega)), rfl⟩
        | exact ⟨_, opE_h (by omega) (hdE_o hM hRn (by omega) (by omega)), rfl⟩
        | exact ⟨_, opE_s (by omega) (hdE_k hM hRn (by omega) (by omega)) (by omega), rfl⟩
        | exact ⟨_, opE_r (by omega) (hdE_k hM hRn (by omega) (by omega)) (by omega) (by omega), rfl⟩
        | exact ⟨_, opE_m (by omega) (hdE_k hM hRn (by omega) (by omega)) (by omega) (by omega) (by rw [Nat.add_comm 10 (hdN b)]; rw [Nat.add_comm (hdN b) 10]; exact mac_ne (by rw [Nat.add_comm 10 (hdN b)]; assumption)), by show ((10 + hdN b : Nat) : Int) = _; omega⟩
      obtain ⟨q9, he, hp9⟩ := he
      have hn : ¬ opE lk b = none := by rw [he]; simp
      have hv0 : opF lk b = 0 := by rw [opF, if_neg hn]
      have hv1 : opT lk b = 0 := by rw [opT, if_neg hn]
      exact ⟨_, rfl, .slice none 0 0, [], by rw [hv0, hv1, he, hp9]; rfl, by rw [opB, if_neg hn]; exact OS.nil 5 1, H37.none.nilp⟩
     ·
      refine wp_skip ?_
      refine n_block (n_then ?_)
      refine c_reg ?_
      refine sy (v := I ((i : Nat) : Int)) (y_move s8_13) ?_
      refine sy (v := I ((i + 1 : Nat) : Int)) (n_add (a := i) (b := 1) rfl rfl (by omega)) ?_
      refine sy (v := I ((i + 1 : Nat) : Int)) (y_assign rfl) ?_
      refine c_nil ?_
      exact lp_next (i + 1) ⟨s0_13, s1_13, s4_13, s7_13, rfl, (by omega), (hfc.trans (by rw [sub_succ (by omega)]; first | exact hdC_goM (by assumption) (by assumption) (by assumption) | exact hdC_goR (by assumption) (by assumption) (by assumption))), H32⟩ (by show _ < _; omega)
  ·
   obtain rfl : i = 6 := by omega
   obtain ⟨hM, hRn⟩ := hdC_none (b := b) hfc
   refine wp_exit ?_
   refine x_then (x_then (x_hit (n_then ?_)))
   refine c_seq ?_
   refine c_seq ?_
   refine c_reg ?_
   refine sy (v := v1) (y_move s1_13) ?_
   refine sy (v := I ((b.length : Nat) : Int)) (y_lenR Tryd.underlying22 (hR.st H13) rfl) ?_
   refine sy (v := .bool (decide (b.length < 10))) (n_lss (a := b.length) (b := 10) rfl rfl) ?_
   refine c_nil ?_
   refine n_then ?_
   refine c_if rfl (fun hc38 => ?_) (fun hc38 => ?_)
   ·
    refine c_seq ?_
    refine c_reg ?_
    refine sy (v := .agg ([I ((0 : Nat) : Int), I ((0 : Nat) : Int), .slice none 0 0]).toArray) (y_build (parts := []) (pv := []) (us := [I ((0 : Nat) : Int), I ((0 : Nat) : Int), .slice none 0 0]) trivial (by kernel_rfl)) ?_
    have H39 : St w _ [_, _] w12 := H13.foc 1 rfl rfl
    refine s0 (ow_storeW (us := [I ((0 : Nat) : Int), I ((0 : Nat) : Int), .slice none 0 0]) H39 sz26 rfl s4_13 rfl (by simp [Value.oneCell']) (by simp [*])) ?_
    rintro _ w40 H41'
    have H41 : St w _ [[(g1, Rw 26 ([I ((0 : Nat) : Int), I ((0 : Nat) : Int), .slice none 0 0]))], _] w40 := H41'
    refine sy (v := I ((20 : Nat) : Int)) (y_assign (v := I ((20 : Nat) : Int)) rfl) ?_
    refine sy (v := I ((6 : Nat) : Int)) (y_assign (v := I ((6 : Nat) : Int)) rfl) ?_
    refine c_nil ?_
    refine n_then ?_
    refine wp_ret ?_
    refine r_then ?_
    refine e_r3 Tryd.results6 (rv_b H41 (i := 0) rfl ag26 sz26 rfl s4_13) (rv_t rfl) (rv_t rfl) ?_
    have he : ∃ q, opE lk b = some (20, q) ∧ plN (some (20, q)) = ((6 : Nat) : Int) := by
     first
      | exact ⟨_, opE_k (by assumption), rfl⟩
      | exact ⟨_, opE_h (by omega) (hdC_some (hfc.trans (by rw [sub_succ (by omega)]; exact hdC_len (by assumption)))), rfl⟩
      | exact ⟨_, opE_h (by omega) (hdC_some (hfc.trans (by rw [sub_succ (by omega)]; exact hdC_m (by assumption) (by assumption) (by assumption)))), rfl⟩
      | exact ⟨_, opE_h (by omega) (hdC_some (hfc.trans (by rw [sub_succ (by omega)]; exact hdC_r (by assumption) (by assumption) (by assumption)))), rfl⟩
      | exact ⟨_, opE_h (by omega) (hdE_s hM hRn (by omega)), rfl⟩
      | exact ⟨_, opE_h (by omega) (hdE_o hM hRn (by omega) (by omega)), rfl⟩
      | exact ⟨_, opE_s (by omega) (hdE_k hM hRn (by omega) (by omega)) (by omega), rfl⟩
      | exact ⟨_, opE_r (by omega) (hdE_k hM hRn (by omega) (by omega)) (by omega) (by omega), rfl⟩
      | exact ⟨_, opE_m (by omega) (hdE_k hM hRn (by omega) (by omega)) (by omega) (by omega) (by rw [Nat.add_comm 10 (hdN b)]; rw [Nat.add_comm (hdN b) 10]; exact mac_ne (by rw [Nat.add_comm 10 (hdN b)]; assumption)), by show ((10 + hdN b : Nat) : Int) = _; omega⟩
    obtain ⟨q9, he, hp9⟩ := he
    have hn : ¬ opE lk b = none := by rw [he]; simp
    have hv0 : opF lk b = 0 := by rw [opF, if_neg hn]
    have hv1 : opT lk b = 0 := by rw [opT, if_neg hn]
    exact ⟨_, rfl, .slice none 0 0, [], by rw [hv0, hv1, he, hp9]; rfl, by rw [opB, if_neg hn]; exact OS.nil 5 1, H41.none.nilp⟩
   ·
    refine wp_skip ?_
    refine n_then ?_
    refine c_seq ?_
    have l6 := (b.getD 6 0).toNat_lt
    have l7 := (b.getD 7 0).toNat_lt
    have l8 := (b.getD 8 0).toNat_lt
    have l9 := (b.getD 9 0).toNat_lt
    refine drawS (.step 0 0 (.step 0 1 (.step 0 2 (.step 0 3 (.step 0 4 (.step 0 5 (.step 0 6 (.step 0 7 (.step 0 8 (.step 0 9 (.step 0 10 (.step 0 11 (.step 0 12 (.step 0 13 (.step 0 14 (.step 0 15 (.step 0 16 (.step 0 17 (.step 0 18 (.step 0 19 (.step 0 20 (.step 0 21 (.step 2 22 .nil))))))))))))))))))))))) mixed H13 (by kernel_rfl) (by kernel_rfl) (by kernel_rfl) ?_
    intro w42 H43
    refine pt (v := v1) rfl (fun wS HS => y_move s1_13) ?_
    refine pt (v := Ad (sp (v1)) (6 * 1)) rfl (fun wS HS => y_ixR (m := 6) Tryd.underlying22 sz5 (hR.st HS) (by decide) rfl rfl rfl (by omega)) ?_
    refine pt (v := B8 (b.getD 6 0)) rfl (fun wS HS => y_load sc5 rfl ((hR.st HS).cell _ _ (by rw [Nat.mul_one]; exact map_get B8 (l := b) (k := 6) 0 (by omega)))) ?_
    refine pt (v := I (((b.getD 6 0).toNat : Nat) : Int)) rfl (fun wS HS => y_conv_8_I Tryd.underlying5 Tryd.underlying3 rfl) ?_
    refine pt (v := v1) rfl (fun wS HS => y_move s1_13) ?_
    refine pt (v := Ad (sp (v1)) (7 * 1)) rfl (fun wS HS => y_ixR (m := 7) Tryd.underlying22 sz5 (hR.st HS) (by decide) rfl rfl rfl (by omega)) ?_
    refine pt (v := B8 (b.getD 7 0)) rfl (fun wS HS => y_load sc5 rfl ((hR.st HS).cell _ _ (by rw [Nat.mul_one]; exact map_get B8 (l := b) (k := 7) 0 (by omega)))) ?_
    refine pt (v := I (((b.getD 7 0).toNat : Nat) : Int)) rfl (fun wS HS => y_conv_8_I Tryd.underlying5 Tryd.underlying3 rfl) ?_
    refine pt (v := I ((256 * ((b.getD 7 0).toNat) : Nat) : Int)) rfl (fun wS HS => n_mul (a := 256) (b := (b.getD 7 0).toNat) rfl rfl (by omega)) ?_
    refine pt (v := I ((((b.getD 6 0).toNat) + (256 * ((b.getD 7 0).toNat)) : Nat) : Int)) rfl (fun wS HS => n_add (a := (b.getD 6 0).toNat) (b := 256 * ((b.getD 7 0).toNat)) rfl rfl (by omega)) ?_
    refine pt (v := v1) rfl (fun wS HS => y_move s1_13) ?_
    refine pt (v := Ad (sp (v1)) (8 * 1)) rfl (fun wS HS => y_ixR (m := 8) Tryd.underlying22 sz5 (hR.st HS) (by decide) rfl rfl rfl (by omega)) ?_
    refine pt (v := B8 (b.getD 8 0)) rfl (fun wS HS => y_load sc5 rfl ((hR.st HS).cell _ _ (by rw [Nat.mul_one]; exact map_get B8 (l := b) (k := 8) 0 (by omega)))) ?_
    refine pt (v := I (((b.getD 8 0).toNat : Nat) : Int)) rfl (fun wS HS => y_conv_8_I Tryd.underlying5 Tryd.underlying3 rfl) ?_
    refine pt (v := I ((65536 * ((b.getD 8 0).toNat) : Nat) : Int)) rfl (fun wS HS => n_mul (a := 65536) (b := (b.getD 8 0).toNat) rfl rfl (by omega)) ?_
    refine pt (v := I (((((b.getD 6 0).toNat) + (256 * ((b.getD 7 0).toNat))) + (65536 * ((b.getD 8 0).toNat)) : Nat) : Int)) rfl (fun wS HS => n_add (a := ((b.getD 6 0).toNat) + (256 * ((b.getD 7 0).toNat))) (b := 65536 * ((b.getD 8 0).toNat)) rfl rfl (by omega)) ?_
    refine pt (v := v1) rfl (fun wS HS => y_move s1_13) ?_
    refine pt (v := Ad (sp (v1)) (9 * 1)) rfl (fun wS HS => y_ixR (m := 9) Tryd.underlying22 sz5 (hR.st HS) (by decide) rfl rfl rfl (by omega)) ?_
    refine pt (v := B8 (b.getD 9 0)) rfl (fun wS HS => y_load sc5 rfl ((hR.st HS).cell _ _ (by rw [Nat.mul_one]; exact map_get B8 (l := b) (k := 9) 0 (by omega)))) ?_
    refine pt (v := I (((b.getD 9 0).toNat : Nat) : Int)) rfl (fun wS HS => y_conv_8_I Tryd.underlying5 Tryd.underlying3 rfl) ?_
    refine pt (v := I ((16777216 * ((b.getD 9 0).toNat) : Nat) : Int)) rfl (fun wS HS => n_mul (a := 16777216) (b := (b.getD 9 0).toNat) rfl rfl (by omega)) ?_
    refine pt (v := I ((((((b.getD 6 0).toNat) + (256 * ((b.getD 7 0).toNat))) + (65536 * ((b.getD 8 0).toNat))) + (16777216 * ((b.getD 9 0).toNat)) : Nat) : Int)) rfl (fun wS HS => n_add (a := (((b.getD 6 0).toNat) + (256 * ((b.getD 7 0).toNat))) + (65536 * ((b.getD 8 0).toNat))) (b := 16777216 * ((b.getD 9 0).toNat)) rfl rfl (by omega)) ?_
    refine tly (v := I ((hdN b : Nat) : Int)) rfl (y_assign (v := I ((hdN b : Nat) : Int)) rfl) ?_
    refine p_nil ?_
    refine n_then ?_
    refine c_seq ?_
    refine wp_block ?_
    refine c_seq ?_
    refine c_reg ?_
    refine sy (v := I ((hdN b : Nat) : Int)) (y_move rfl) ?_
    refine sy (v := .bool (decide (2097152 < (hdN b)))) (n_gtr (a := hdN b) (b := 2097152) rfl rfl) ?_
    refine sy (v := .bool (decide (2097152 < (hdN b)))) (y_assign rfl) ?_
    refine c_nil ?_
    refine n_then ?_
    refine c_if rfl (fun hc44 => ?_) (fun hc44 => ?_)
    ·
     refine c_seq ?_
     refine c_reg ?_
     refine sy (v := .agg ([I ((0 : Nat) : Int), I ((0 : Nat) : Int), .slice none 0 0]).toArray) (y_build (parts := []) (pv := []) (us := [I ((0 : Nat) : Int), I ((0 : Nat) : Int), .slice none 0 0]) trivial (by kernel_rfl)) ?_
     have H45 : St w _ [_, _] w42 := H43.foc 1 rfl rfl
     refine s0 (ow_storeW (us := [I ((0 : Nat) : Int), I ((0 : Nat) : Int), .slice none 0 0]) H45 sz26 rfl s4_13 rfl (by simp [Value.oneCell']) (by simp [*])) ?_
     rintro _ w46 H47'
     have H47 : St w _ [[(g1, Rw 26 ([I ((0 : Nat) : Int), I ((0 : Nat) : Int), .slice none 0 0]))], _] w46 := H47'
     refine sy (v := I ((22 : Nat) : Int)) (y_assign (v := I ((22 : Nat) : Int)) rfl) ?_
     refine sy (v := I ((6 : Nat) : Int)) (y_assign (v := I ((6 : Nat) : Int)) rfl) ?_
     refine c_nil ?_
     refine n_then ?_
     refine wp_ret ?_
     refine r_block (r_then ?_)
     refine e_r3 Tryd.results6 (rv_b H47 (i := 0) rfl ag26 sz26 rfl s4_13) (rv_t rfl) (rv_t rfl) ?_
     have he : ∃ q, opE lk b = some (22, q) ∧ plN (some (22, q)) = ((6 : Nat) : Int) := by
      first
       | exact ⟨_, opE_k (by assumption), rfl⟩
       | exact ⟨_, opE_h (by omega) (hdC_some (hfc.trans (by rw [sub_succ (by omega)]; exact hdC_len (by assumption)))), rfl⟩
       | exact ⟨_, opE_h (by omega) (hdC_some (hfc.trans (by rw [sub_succ (by omega)]; exact hdC_m (by assumption) (by assumption) (by assumption)))), rfl⟩
       | exact ⟨_, opE_h (by omega) (hdC_some (hfc.trans (by rw [sub_succ (by omega)]; exact hdC_r (by assumption) (by assumption) (by assumption)))), rfl⟩
       | exact ⟨_, opE_h (by omega) (hdE_s hM hRn (by omega)), rfl⟩
       | exact ⟨_, opE_h (by omega) (hdE_o hM hRn (by omega) (by omega)), rfl⟩
       | exact ⟨_, opE_s (by omega) (hdE_k hM hRn (by omega) (by omega)) (by omega), rfl⟩
       | exact ⟨_, opE_r (by omega) (hdE_k hM hRn (by omega) (by omega)) (by omega) (by omega), rfl⟩
       | exact ⟨_, opE_m (by omega) (hdE_k hM hRn (by omega) (by omega)) (by omega) (by omega) (by rw [Nat.add_comm 10 (hdN b)]; rw [Nat.add_comm (hdN b) 10]; exact mac_ne (by rw [Nat.add_comm 10 (hdN b)]; assumption)), by show ((10 + hdN b : Nat) : Int) = _; omega⟩
     obtain ⟨q9, he, hp9⟩ := he
     have hn : ¬ opE lk b = none := by rw [he]; simp
     have hv0 : opF lk b = 0 := by rw [opF, if_neg hn]
     have hv1 : opT lk b = 0 := by rw [opT, if_neg hn]
     exact ⟨_, rfl, .slice none 0 0, [], by rw [hv0, hv1, he, hp9]; rfl, by rw [opB, if_neg hn]; exact OS.nil 5 1, H47.none.nilp⟩
    ·
     refine c_seq ?_
     refine c_reg ?_
     refine sy (v := v1) (y_move s1_13) ?_
     refine sy (v := I ((b.length : Nat) : Int)) (y_lenR Tryd.underlying22 (hR.st H43) rfl) ?_
     refine sy (v := I ((hdN b : Nat) : Int)) (y_move rfl) ?_
     refine sy (v := I (((hdN b) + 42 : Nat) : Int)) (n_add (a := hdN b) (b := 42) rfl rfl (by omega)) ?_
     refine sy (v := .bool (decide (b.length < ((hdN b) + 42)))) (n_lss (a := b.length) (b := (hdN b) + 42) rfl rfl) ?_
     refine sy (v := .bool (decide (b.length < ((hdN b) + 42)))) (y_assign rfl) ?_
     refine c_nil ?_
     refine n_then ?_
     refine c_if rfl (fun hc48 => ?_) (fun hc48 => ?_)
     ·
      refine c_seq ?_
      refine c_reg ?_
      refine sy (v := .agg ([I ((0 : Nat) : Int), I ((0 : Nat) : Int), .slice none 0 0]).toArray) (y_build (parts := []) (pv := []) (us := [I ((0 : Nat) : Int), I ((0 : Nat) : Int), .slice none 0 0]) trivial (by kernel_rfl)) ?_
      have H49 : St w _ [_, _] w42 := H43.foc 1 rfl rfl
      refine s0 (ow_storeW (us := [I ((0 : Nat) : Int), I ((0 : Nat) : Int), .slice none 0 0]) H49 sz26 rfl s4_13 rfl (by simp [Value.oneCell']) (by simp [*])) ?_
      rintro _ w50 H51'
      have H51 : St w _ [[(g1, Rw 26 ([I ((0 : Nat) : Int), I ((0 : Nat) : Int), .slice none 0 0]))], _] w50 := H51'
      refine sy (v := I ((20 : Nat) : Int)) (y_assign (v := I ((20 : Nat) : Int)) rfl) ?_
      refine sy (v := I ((10 : Nat) : Int)) (y_assign (v := I ((10 : Nat) : Int)) rfl) ?_
      refine c_nil ?_
      refine n_then ?_
      refine wp_ret ?_
      refine r_block (r_then ?_)
      refine e_r3 Tryd.results6 (rv_b H51 (i := 0) rfl ag26 sz26 rfl s4_13) (rv_t rfl) (rv_t rfl) ?_
      have he : ∃ q, opE lk b = some (20, q) ∧ plN (some (20, q)) = ((10 : Nat) : Int) := by
       first
        | exact ⟨_, opE_k (by assumption), rfl⟩
        | exact ⟨_, opE_h (by omega) (hdC_some (hfc.trans (by rw [sub_succ (by omega)]; exact hdC_len (by assumption)))), rfl⟩
        | exact ⟨_, opE_h (by omega) (hdC_some (hfc.trans (by rw [sub_succ (by omega)]; exact hdC_m (by assumption) (by assumption) (by assumption)))), rfl⟩
        | exact ⟨_, opE_h (by omega) (hdC_some (hfc.trans (by rw [sub_succ (by omega)]; exact hdC_r (by assumption) (by assumption) (by assumption)))), rfl⟩
        | exact ⟨_, opE_h (by omega) (hdE_s hM hRn (by omega)), rfl⟩
        | exact ⟨_, opE_h (by omega) (hdE_o hM hRn (by omega) (by omega)), rfl⟩
        | exact ⟨_, opE_s (by omega) (hdE_k hM hRn (by omega) (by omega)) (by omega), rfl⟩
        | exact ⟨_, opE_r (by omega) (hdE_k hM hRn (by omega) (by omega)) (by omega) (by omega), rfl⟩
        | exact ⟨_, opE_m (by omega) (hdE_k hM hRn (by omega) (by omega)) (by omega) (by omega) (by rw [Nat.add_comm 10 (hdN b)]; rw [Nat.add_comm (hdN b) 10]; exact mac_ne (by rw [Nat.add_comm 10 (hdN b)]; assumption)), by show ((10 + hdN b : Nat) : Int) = _; omega⟩
      obtain ⟨q9, he, hp9⟩ := he
      have hn : ¬ opE lk b = none := by rw [he]; simp
      have hv0 : opF lk b = 0 := by rw [opF, if_neg hn]
      have hv1 : opT lk b = 0 := by rw [opT, if_neg hn]
      exact ⟨_, rfl, .slice none 0 0, [], by rw [hv0, hv1, he, hp9]; rfl, by rw [opB, if_neg hn]; exact OS.nil 5 1, H51.none.nilp⟩
     ·
      refine c_seq ?_
      refine c_reg ?_
      refine sy (v := v1) (y_move s1_13) ?_
      refine sy (v := I ((b.length : Nat) : Int)) (y_lenR Tryd.underlying22 (hR.st H43) rfl) ?_
      refine sy (v := I ((hdN b : Nat) : Int)) (y_move rfl) ?_
      refine sy (v := I (((hdN b) + 42 : Nat) : Int)) (n_add (a := hdN b) (b := 42) rfl rfl (by omega)) ?_
      refine sy (v := .bool (decide (((hdN b) + 42) < b.length))) (n_gtr (a := b.length) (b := (hdN b) + 42) rfl rfl) ?_
      refine sy (v := .bool (decide (((hdN b) + 42) < b.length))) (y_assign rfl) ?_
      refine c_nil ?_
      refine n_then ?_
      refine c_if rfl (fun hc52 => ?_) (fun hc52 => ?_)
      ·
       refine c_seq ?_
       refine c_reg ?_
       refine sy (v := .agg ([I ((0 : Nat) : Int), I ((0 : Nat) : Int), .slice none 0 0]).toArray) (y_build (parts := []) (pv := []) (us := [I ((0 : Nat) : Int), I ((0 : Nat) : Int), .slice none 0 0]) trivial (by kernel_rfl)) ?_
       refine sy (v := I ((hdN b : Nat) : Int)) (y_move rfl) ?_
       refine sy (v := I (((hdN b) + 42 : Nat) : Int)) (n_add (a := hdN b) (b := 42) rfl rfl (by omega)) ?_
       have H53 : St w _ [_, _] w42 := H43.foc 1 rfl rfl
       refine s0 (ow_storeW (us := [I ((0 : Nat) : Int), I ((0 : Nat) : Int), .slice none 0 0]) H53 sz26 rfl s4_13 rfl (by simp [Value.oneCell']) (by simp [*])) ?_
       rintro _ w54 H55'
       have H55 : St w _ [[(g1, Rw 26 ([I ((0 : Nat) : Int), I ((0 : Nat) : Int), .slice none 0 0]))], _] w54 := H55'
       refine sy (v := I ((23 : Nat) : Int)) (y_assign (v := I ((23 : Nat) : Int)) rfl) ?_
       refine sy (v := I (((hdN b) + 42 : Nat) : Int)) (y_assign rfl) ?_
       refine c_nil ?_
       refine n_then ?_
       refine wp_ret ?_
       refine r_block (r_then ?_)
       refine e_r3 Tryd.results6 (rv_b H55 (i := 0) rfl ag26 sz26 rfl s4_13) (rv_t rfl) (rv_t rfl) ?_
       have he : ∃ q, opE lk b = some (23, q) ∧ plN (some (23, q)) = (((hdN b) + 42 : Nat) : Int) := by
        first
         | exact ⟨_, opE_k (by assumption), rfl⟩
         | exact ⟨_, opE_h (by omega) (hdC_some (hfc.trans (by rw [sub_succ (by omega)]; exact hdC_len (by assumption)))), rfl⟩
         | exact ⟨_, opE_h (by omega) (hdC_some (hfc.trans (by rw [sub_succ (by omega)]; exact hdC_m (by assumption) (by assumption) (by assumption)))), rfl⟩
         | exact ⟨_, opE_h (by omega) (hdC_some (hfc.trans (by rw [sub_succ (by omega)]; exact hdC_r (by assumption) (by assumption) (by assumption)))), rfl⟩
         | exact ⟨_, opE_h (by omega) (hdE_s hM hRn (by omega)), rfl⟩
         | exact ⟨_, opE_h (by omega) (hdE_o hM hRn (by omega) (by omega)), rfl⟩
         | exact ⟨_, opE_s (by omega) (hdE_k hM hRn (by omega) (by omega)) (by omega), rfl⟩
         | exact ⟨_, opE_r (by omega) (hdE_k hM hRn (by omega) (by omega)) (by omega) (by omega), rfl⟩
         | exact ⟨_, opE_m (by omega) (hdE_k hM hRn (by omega) (by omega)) (by omega) (by omega) (by rw [Nat.add_comm 10 (hdN b)]; rw [Nat.add_comm (hdN b) 10]; exact mac_ne (by rw [Nat.add_comm 10 (hdN b)]; assumption)), by show ((10 + hdN b : Nat) : Int) = _; omega⟩
       obtain ⟨q9, he, hp9⟩ := he
       have hn : ¬ opE lk b = none := by rw [he]; simp
       have hv0 : opF lk b = 0 := by rw [opF, if_neg hn]
       have hv1 : opT lk b = 0 := by rw [opT, if_neg hn]
       exact ⟨_, rfl, .slice none 0 0, [], by rw [hv0, hv1, he, hp9]; rfl, by rw [opB, if_neg hn]; exact OS.nil 5 1, H55.none.nilp⟩
      ·
       refine wp_skip ?_
       refine n_block (n_then ?_)
       refine c_seq ?_
       refine c_reg ?_
       refine sy (v := v0) (y_move s0_13) ?_
       refine sy (v := v1) (y_move s1_13) ?_
       refine sy (v := I ((hdN b : Nat) : Int)) (y_move rfl) ?_
       refine sy (v := I (((hdN b) + 10 : Nat) : Int)) (n_add (a := hdN b) (b := 10) rfl rfl (by omega)) ?_
       have hL56 : (b.take ((hdN b) + 10)).length = ((hdN b) + 10) := by rw [List.length_take]; omega
       refine sy (v := slv 1 0 ((hdN b) + 10) v1) (y_slR (k1 := .i64) (k2 := .i64) (l := 0) (h := (hdN b) + 10) Tryd.underlying22 sz5 (hR.st H43) rfl (.inl ⟨rfl, rfl⟩) (.inr ⟨_, rfl, rfl⟩) (by omega) (by omega)) ?_
       refine st (ow_call fn15 rfl (rmac_c (v0) (slv 1 0 ((hdN b) + 10) v1) (lk) (b.take ((hdN b) + 10)) _ ((hK.st H43)).nil ((rdb_pre (hR.st H43) (by omega))).nil (by first | omega | (simp only [List.length_append, List.length_cons, List.length_nil, List.length_take, List.length_drop, hmac_length, sha_length, List.length_replicate]; omega)) (by first | omega | (simp only [List.length_append, List.length_cons, List.length_nil, List.length_take, List.length_drop, hmac_length, sha_length, List.length_replicate]; omega))) ⟨rfl, rfl, trivial⟩) ?_
       rintro _ w57 ⟨rfl, hB58⟩
       have H59 : St w _ [_, _] w57 := H43.call hB58
       refine st (ow_alloc (l := (List.replicate 32 0).map B8) H59 zr40 (by simp [Value.cells])) ?_
       rintro _ w61 ⟨g60, rfl, H62⟩
       refine s0 (ow_storeW (us := (hmac (lk) (b.take ((hdN b) + 10))).map B8) H62 sz40 ((List.length_map _).trans (hmac_length _ _)) rfl rfl (map_one (F := B8) (fun _ => rfl) _) ((List.length_map _).trans List.length_replicate)) ?_
       rintro _ w63 H64'
       have H64 : St w _ [[(g60, Rw 40 ((hmac (lk) (b.take ((hdN b) + 10))).map B8))], _, _] w63 := H64'
       refine c_nil ?_
       refine n_then ?_
       refine c_seq ?_
       refine c_seq ?_
       refine c_reg ?_
       refine sy (v := I ((0 : Nat) : Int)) (y_assign (v := I ((0 : Nat) : Int)) rfl) ?_
       refine c_nil ?_
       refine n_then ?_
       refine wp_block ?_
       refine c_loop (fun (j : Nat) f65 w66 => f65 1 = v1 ∧ f65 4 = Ad (bs g1) (0) ∧ f65 10 = I ((hdN b : Nat) : Int) ∧ f65 11 = Ad (bs g60) (0) ∧ f65 12 = I ((j : Nat) : Int) ∧ j ≤ 32 ∧ (∀ t, t < j → b.getD (hdN b + 10 + t) 0 = (hmac (lk) (b.take (hdN b + 10))).getD t 0) ∧ St w [] [[(g60, Rw 40 ((hmac (lk) (b.take ((hdN b) + 10))).map B8))], [(g7, Rw 5 ((markL).map B8))], [(g1, Rw 26 ([I ((0 : Nat) : Int), I ((0 : Nat) : Int), .slice none 0 0]))]] w66) (fun j => 32 - j) 0 ⟨s1_13, s4_13, rfl, rfl, rfl, (by omega), (fun t h => absurd h (by omega)), H64⟩ ?_
       rintro j f65 w66 ⟨s1_67, s4_67, s10_67, s11_67, s12_67, hj, hfj, H67⟩
       have hml : (hmac (lk) (b.take (hdN b + 10))).length = 32 := hmac_length _ _
       refine c_seq ?_
       refine c_seq ?_
       refine c_reg ?_
       refine sy (v := I ((j : Nat) : Int)) (y_move s12_67) ?_
       refine sy (v := .bool (decide (j < 32))) (n_lss (a := j) (b := 32) rfl rfl) ?_
       refine c_nil ?_
       refine n_then ?_
       refine c_if rfl (fun hc68 => ?_) (fun hc68 => ?_)
       ·
        refine wp_skip ?_
        refine n_then ?_
        refine c_seq ?_
        refine wp_block ?_
        refine c_seq ?_
        refine drawS (.step 0 0 (.step 0 1 (.step 0 2 (.step 0 3 (.step 0 4 (.step 0 5 (.step 0 6 (.step 0 7 (.step 0 8 (.step 0 9 (.step 0 10 .nil))))))))))) mixed H67 (by kernel_rfl) (by kernel_rfl) (by kernel_rfl) ?_
        intro w69 H70
        refine pt (v := v1) rfl (fun wS HS => y_move s1_67) ?_
        refine pt (v := I ((hdN b : Nat) : Int)) rfl (fun wS HS => y_move s10_67) ?_
        refine pt (v := I (((hdN b) + 10 : Nat) : Int)) rfl (fun wS HS => n_add (a := hdN b) (b := 10) rfl rfl (by omega)) ?_
        refine pt (v := I ((j : Nat) : Int)) rfl (fun wS HS => y_move s12_67) ?_
        refine pt (v := I ((((hdN b) + 10) + j : Nat) : Int)) rfl (fun wS HS => n_add (a := (hdN b) + 10) (b := j) rfl rfl (by omega)) ?_
        refine pt (v := Ad (sp (v1)) ((((hdN b) + 10) + j) * 1)) rfl (fun wS HS => y_ixR (m := ((hdN b) + 10) + j) Tryd.underlying22 sz5 (hR.st HS) (by decide) rfl rfl rfl (by omega)) ?_
        refine pt (v := B8 (b.getD (((hdN b) + 10) + j) 0)) rfl (fun wS HS => y_load sc5 rfl ((hR.st HS).cell _ _ (by rw [Nat.mul_one]; exact map_get B8 (l := b) (k := ((hdN b) + 10) + j) 0 (by omega)))) ?_
        refine pt (v := I ((j : Nat) : Int)) rfl (fun wS HS => y_move s12_67) ?_
        refine pt (v := Ad (bs g60) (0 + j * 1)) rfl (fun wS HS => y_ixA (m := j) Tryd.underlying40 sz5 s11_67 rfl rfl (by omega)) ?_
        refine pt (v := B8 ((hmac lk (b.take ((hdN b) + 10))).getD j 0)) rfl (fun wS HS => y_load sc5 rfl (HS.cell 0 rfl (by simp only [Nat.zero_add, Nat.mul_one]; exact map_get B8 0 (by omega)))) ?_
        refine pt (v := .bool (decide ((b.getD (((hdN b) + 10) + j) 0) ≠ ((hmac lk (b.take ((hdN b) + 10))).getD j 0)))) rfl (fun wS HS => y_neq8 (a := b.getD (((hdN b) + 10) + j) 0) (b := (hmac lk (b.take ((hdN b) + 10))).getD j 0) rfl rfl) ?_
        refine p_nil ?_
        refine n_then ?_
        refine c_if rfl (fun hc71 => ?_) (fun hc71 => ?_)
        ·
         refine c_seq ?_
         refine c_reg ?_
         refine sy (v := .agg ([I ((0 : Nat) : Int), I ((0 : Nat) : Int), .slice none 0 0]).toArray) (y_build (parts := []) (pv := []) (us := [I ((0 : Nat) : Int), I ((0 : Nat) : Int), .slice none 0 0]) trivial (by kernel_rfl)) ?_
         refine sy (v := I ((hdN b : Nat) : Int)) (y_move s10_67) ?_
         refine sy (v := I (((hdN b) + 10 : Nat) : Int)) (n_add (a := hdN b) (b := 10) rfl rfl (by omega)) ?_
         have H72 : St w _ [_, _, _] w69 := H70.foc 2 rfl rfl
         refine s0 (ow_storeW (us := [I ((0 : Nat) : Int), I ((0 : Nat) : Int), .slice none 0 0]) H72 sz26 rfl s4_67 rfl (by simp [Value.oneCell']) (by simp [*])) ?_
         rintro _ w73 H74'
         have H74 : St w _ [[(g1, Rw 26 ([I ((0 : Nat) : Int), I ((0 : Nat) : Int), .slice none 0 0]))], _, _] w73 := H74'
         refine sy (v := I ((30 : Nat) : Int)) (y_assign (v := I ((30 : Nat) : Int)) rfl) ?_
         refine sy (v := I (((hdN b) + 10 : Nat) : Int)) (y_assign rfl) ?_
         refine c_nil ?_
         refine n_then ?_
         refine wp_ret ?_
         refine r_block (r_then (r_then (r_block (r_then ?_))))
         refine e_r3 Tryd.results6 (rv_b H74 (i := 0) rfl ag26 sz26 rfl s4_67) (rv_t rfl) (rv_t rfl) ?_
         have he : ∃ q, opE lk b = some (30, q) ∧ plN (some (30, q)) = (((hdN b) + 10 : Nat) : Int) := by
          first
           | exact ⟨_, opE_k (by assumption), rfl⟩
           | exact ⟨_, opE_h (by omega) (hdC_some (hfc.trans (by rw [sub_succ (by omega)]; exact hdC_len (by assumption)))), rfl⟩
           | exact ⟨_, opE_h (by omega) (hdC_some (hfc.trans (by rw [sub_succ (by omega)]; exact hdC_m (by assumption) (by assumption) (by assumption)))), rfl⟩
           | exact ⟨_, opE_h (by omega) (hdC_some (hfc.trans (by rw [sub_succ (by omega)]; exact hdC_r (by assumption) (by assumption) (by assumption)))), rfl⟩
           | exact ⟨_, opE_h (by omega) (hdE_s hM hRn (by omega)), rfl⟩
           | exact ⟨_, opE_h (by omega) (hdE_o hM hRn (by omega) (by omega)), rfl⟩
           | exact ⟨_, opE_s (by omega) (hdE_k hM hRn (by omega) (by omega)) (by omega), rfl⟩
           | exact ⟨_, opE_r (by omega) (hdE_k hM hRn (by omega) (by omega)) (by omega) (by omega), rfl⟩
           | exact ⟨_, opE_m (by omega) (hdE_k hM hRn (by omega) (by omega)) (by omega) (by omega) (by rw [Nat.add_comm 10 (hdN b)]; rw [Nat.add_comm (hdN b) 10]; exact mac_ne (by rw [Nat.add_comm 10 (hdN b)]; assumption)), by show ((10 + hdN b : Nat) : Int) = _; omega⟩
         obtain ⟨q9, he, hp9⟩ := he
         have hn : ¬ opE lk b = none := by rw [he]; simp
         have hv0 : opF lk b = 0 := by rw [opF, if_neg hn]
         have hv1 : opT lk b = 0 := by rw [opT, if_neg hn]
         exact ⟨_, rfl, .slice none 0 0, [], by rw [hv0, hv1, he, hp9]; rfl, by rw [opB, if_neg hn]; exact OS.nil 5 1, H74.none.nilp⟩
        ·
         refine wp_skip ?_
         refine n_block (n_then ?_)
         refine c_reg ?_
         refine sy (v := I ((j : Nat) : Int)) (y_move s12_67) ?_
         refine sy (v := I ((j + 1 : Nat) : Int)) (n_add (a := j) (b := 1) rfl rfl (by omega)) ?_
         refine sy (v := I ((j + 1 : Nat) : Int)) (y_assign rfl) ?_
         refine c_nil ?_
         exact lp_next (j + 1) ⟨s1_67, s4_67, s10_67, s11_67, rfl, (by omega), (fun t ht => by
          rcases Nat.lt_or_ge t j with h | h
          · exact hfj t h
          · obtain rfl : t = j := by omega
            exact Decidable.not_not.1 (by assumption)), H70⟩ (by show _ < _; omega)
       ·
        obtain rfl : j = 32 := by omega
        refine wp_exit ?_
        refine x_then (x_then (x_hit (n_then ?_)))
        refine c_seq ?_
        refine drawS (.step 0 0 (.step 0 1 (.step 0 2 (.step 0 3 (.step 0 4 (.step 0 5 (.step 0 6 (.step 0 7 (.step 0 9 (.step 0 10 (.step 0 11 (.step 0 12 (.step 1 8 (.step 1 13 (.step 0 14 (.step 2 15 (.step 2 16 (.step 2 17 .nil)))))))))))))))))) mixed H67 (by kernel_rfl) (by kernel_rfl) (by kernel_rfl) ?_
        intro w75 H76
        refine pt (v := v1) rfl (fun wS HS => y_move s1_67) ?_
        refine pt (v := Ad (sp (v1)) (4 * 1)) rfl (fun wS HS => y_ixR (m := 4) Tryd.underlying22 sz5 (hR.st HS) (by decide) rfl rfl rfl (by omega)) ?_
        refine pt (v := B8 (b.getD 4 0)) rfl (fun wS HS => y_load sc5 rfl ((hR.st HS).cell _ _ (by rw [Nat.mul_one]; exact map_get B8 (l := b) (k := 4) 0 (by omega)))) ?_
        refine pt (v := I (((b.getD 4 0).toNat : Nat) : Int)) rfl (fun wS HS => y_conv_8_I Tryd.underlying5 Tryd.underlying3 rfl) ?_
        refine pt (v := v1) rfl (fun wS HS => y_move s1_67) ?_
        refine pt (v := Ad (sp (v1)) (5 * 1)) rfl (fun wS HS => y_ixR (m := 5) Tryd.underlying22 sz5 (hR.st HS) (by decide) rfl rfl rfl (by omega)) ?_
        refine pt (v := B8 (b.getD 5 0)) rfl (fun wS HS => y_load sc5 rfl ((hR.st HS).cell _ _ (by rw [Nat.mul_one]; exact map_get B8 (l := b) (k := 5) 0 (by omega)))) ?_
        refine pt (v := I (((b.getD 5 0).toNat : Nat) : Int)) rfl (fun wS HS => y_conv_8_I Tryd.underlying5 Tryd.underlying3 rfl) ?_
        refine pt (v := v1) rfl (fun wS HS => y_move s1_67) ?_
        refine pt (v := I ((hdN b : Nat) : Int)) rfl (fun wS HS => y_move s10_67) ?_
        refine pt (v := I (((hdN b) + 10 : Nat) : Int)) rfl (fun wS HS => n_add (a := hdN b) (b := 10) rfl rfl (by omega)) ?_
        have hL77 : ((b.drop 10).take (((hdN b) + 10) - 10)).length = ((hdN b) + 10) - 10 := by rw [List.length_take, List.length_drop]; omega
        refine pt (v := slv 1 10 ((hdN b) + 10) v1) rfl (fun wS HS => y_slR (k1 := .i64) (k2 := .i64) (l := 10) (h := (hdN b) + 10) Tryd.underlying22 sz5 (hR.st HS) rfl (.inr ⟨_, rfl, rfl⟩) (.inr ⟨_, rfl, rfl⟩) (by omega) (by omega)) ?_
        refine pl rfl (ow_buildSlice (pv := []) (us := []) Tryd.underlying22 sz5 zr5 H76 trivial (by decide) fill0) ?_
        rintro _ w79 ⟨g78, rfl, H80⟩
        have H81 : St w _ [_, _, _, _] w79 := H80.foc 3 rfl rfl
        have H82 : St w _ [_, _, _, _] w79 := H81.foc 3 rfl rfl
        have H83 : St w _ [_, _, _, _] w79 := H82.foc 3 rfl rfl
        have H84 : St w _ [_, _, _] w79 := H83.take 3 rfl
        refine ⟨H84, ?_⟩
        refine pl rfl (ow_append Tryd.underlying22 sz5 zr5 bt5 rfl (os_lit (k := 0) rfl (by simp [maxLen])) H80 rfl rfl ((rdb_mid (hR.st H80) (by omega) (by omega)).src Tryd.underlying22 (map_one (F := B8) (fun _ => rfl) _)) (by first | omega | (simp only [List.length_append, List.length_cons, List.length_nil, List.length_take, List.length_drop, hmac_length, sha_length, List.length_replicate]; omega)) (by first | omega | (simp only [List.length_append, List.length_cons, List.length_nil, List.length_take, List.length_drop, hmac_length, sha_length, List.length_replicate]; omega))) ?_
        rintro v86 w87 ⟨E85, ho89', H88⟩
        have ho89 : OS 5 1 v86 ((b.drop 10).take (((hdN b) + 10) - 10)).length (((b.drop 10).take (((hdN b) + 10) - 10)).map B8) E85 := by first | (have h := ho89'; rw [Nat.zero_add, List.nil_append] at h; exact h) | simpa using ho89'
        have H90 : St w _ [_, _, _, _] w87 := H88.foc 3 rfl rfl
        have H91 : St w _ [_, _, _, _] w87 := H90.foc 3 rfl rfl
        have H92 : St w _ [_, _, _, _] w87 := H91.foc 3 rfl rfl
        have H93 : St w _ [_, _, _] w87 := H92.take 3 rfl
        refine ⟨H93, ?_⟩
        obtain ⟨pa94, pc95, rfl, -⟩ := (ho89.rd H88 0 rfl).shape
        refine pt (v := .agg ([I (((b.getD 4 0).toNat : Nat) : Int), I (((b.getD 5 0).toNat : Nat) : Int), (.slice pa94 (((b.drop 10).take (((hdN b) + 10) - 10)).length) pc95)]).toArray) rfl (fun wS HS => y_build (pv := [(0, I (((b.getD 4 0).toNat : Nat) : Int)), (1, I (((b.getD 5 0).toNat : Nat) : Int)), (2, (.slice pa94 (((b.drop 10).take (((hdN b) + 10) - 10)).length) pc95))]) (us := [I (((b.getD 4 0).toNat : Nat) : Int), I (((b.getD 5 0).toNat : Nat) : Int), (.slice pa94 (((b.drop 10).take (((hdN b) + 10) - 10)).length) pc95)]) ⟨⟨rfl, rfl⟩, ⟨rfl, rfl⟩, ⟨rfl, rfl⟩, trivial⟩ (by kernel_rfl)) ?_
        have H96 : St w _ [_, _, _, _] w87 := H88.foc 3 rfl rfl
        refine t0 rfl (ow_storeW (us := [I (((b.getD 4 0).toNat : Nat) : Int), I (((b.getD 5 0).toNat : Nat) : Int), (.slice pa94 (((b.drop 10).take (((hdN b) + 10) - 10)).length) pc95)]) H96 sz26 rfl s4_67 rfl (by intro u hu; simp only [List.mem_cons, List.not_mem_nil, or_false] at hu; rcases hu with rfl | rfl | rfl <;> first | rfl | exact Rd.one (ho89.rd H96 1 rfl)) (by simp [*])) ?_
        rintro _ w97 H98'
        have H98 : St w _ [[(g1, Rw 26 ([I (((b.getD 4 0).toNat : Nat) : Int), I (((b.getD 5 0).toNat : Nat) : Int), (.slice pa94 (((b.drop 10).take (((hdN b) + 10) - 10)).length) pc95)]))], _, _, _] w97 := H98'
        refine tly (v := I ((0 : Nat) : Int)) rfl (y_assign (v := I ((0 : Nat) : Int)) rfl) ?_
        refine tly (v := I ((0 : Nat) : Int)) rfl (y_assign (v := I ((0 : Nat) : Int)) rfl) ?_
        refine p_nil ?_
        refine n_then ?_
        refine wp_ret ?_
        refine e_r3 Tryd.results6 (rv_b H98 (i := 0) rfl ag26 sz26 rfl s4_67) (rv_t rfl) (rv_t rfl) ?_
        have hE0 : hdE b = none := hdE_k hM hRn (by omega) (by omega)
        have h9 := mac_eq (b := b) (n := hdN b) (hmac_length _ _) (by omega) hfj
        have he : opE lk b = none := opE_y (by omega) hE0 (by omega) (by omega) (fun h => h (by rw [h9, Nat.add_comm (hdN b) 10]))
        have H99 : St w _ [_, _, _, _] w97 := H98.foc 1 rfl rfl
        have H100 : St w _ [_] w97 := H99.take 1 rfl
        have hq : opB lk b = (b.drop 10).take (((hdN b) + 10) - 10) := by rw [opB, if_pos he]; congr 1 <;> omega
        have hv0 : opF lk b = (b.getD 4 0).toNat := by rw [opF, if_pos he]
        have hv1 : opT lk b = (b.getD 5 0).toNat := by rw [opT, if_pos he]
        exact ⟨_, rfl, (.slice pa94 (((b.drop 10).take (((hdN b) + 10) - 10)).length) pc95), _, (by rw [hv0, hv1, he]; try rfl), by rw [hq]; exact ho89, H100⟩

end Go.Proofs.YtdcmbcjkdhdohaaDoor
