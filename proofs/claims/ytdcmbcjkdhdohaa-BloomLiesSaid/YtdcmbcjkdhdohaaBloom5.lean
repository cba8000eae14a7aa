/- Walks: Count, Has, Right, bit of both; OnesCount8. -/
import Derived.Test.YtdcmbcjkdhdohaaBloom4
namespace Go.Proofs.Ytdcmbcjkdhdohaa
open Go Go.RowKit
set_option linter.unusedSimpArgs false
set_option linter.unusedVariables false
attribute [local irreducible] wpList wpP Code.wp

def popT : List UInt8 := [0, 1, 1, 2, 1, 2, 2, 3, 1, 2, 2, 3, 2, 3, 3, 4, 1, 2, 2, 3, 2, 3, 3, 4, 2, 3, 3, 4, 3, 4, 4, 5, 1, 2, 2, 3, 2, 3, 3, 4, 2, 3, 3, 4, 3, 4, 4, 5, 2, 3, 3, 4, 3, 4, 4, 5, 3, 4, 4, 5, 4, 5, 5, 6, 1, 2, 2, 3, 2, 3, 3, 4, 2, 3, 3, 4, 3, 4, 4, 5, 2, 3, 3, 4, 3, 4, 4, 5, 3, 4, 4, 5, 4, 5, 5, 6, 2, 3, 3, 4, 3, 4, 4, 5, 3, 4, 4, 5, 4, 5, 5, 6, 3, 4, 4, 5, 4, 5, 5, 6, 4, 5, 5, 6, 5, 6, 6, 7, 1, 2, 2, 3, 2, 3, 3, 4, 2, 3, 3, 4, 3, 4, 4, 5, 2, 3, 3, 4, 3, 4, 4, 5, 3, 4, 4, 5, 4, 5, 5, 6, 2, 3, 3, 4, 3, 4, 4, 5, 3, 4, 4, 5, 4, 5, 5, 6, 3, 4, 4, 5, 4, 5, 5, 6, 4, 5, 5, 6, 5, 6, 6, 7, 2, 3, 3, 4, 3, 4, 4, 5, 3, 4, 4, 5, 4, 5, 5, 6, 3, 4, 4, 5, 4, 5, 5, 6, 4, 5, 5, 6, 5, 6, 6, 7, 3, 4, 4, 5, 4, 5, 5, 6, 4, 5, 5, 6, 5, 6, 6, 7, 4, 5, 5, 6, 5, 6, 6, 7, 5, 6, 6, 7, 6, 7, 7, 8]
def pop8 (c : UInt8) : Nat := (popT.getD c.toNat 0).toNat
def bitP (b : List UInt8) (i : Nat) : Prop := (b.getD (i / 8) 0 >>> UInt8.ofNat (i % 8)) % 2 = 1
instance (b : List UInt8) (i : Nat) : Decidable (bitP b i) := by unfold bitP; infer_instance
/-- How many of the first i bits are 1. -/
def cntN (b : List UInt8) : Nat → Nat
  | 0 => 0
  | i + 1 => cntN b i + (if bitP b i then 1 else 0)
theorem cntN_le (b : List UInt8) : ∀ i, cntN b i ≤ i
  | 0 => Nat.le_refl _
  | i + 1 => by have := cntN_le b i; simp only [cntN]; split <;> omega
theorem pop_ok : (List.range 256).all (fun n => pop8 (UInt8.ofNat n) == ((List.range 8).map fun k => if (UInt8.ofNat n >>> UInt8.ofNat k) % 2 = 1 then 1 else 0).sum) = true := by kernel_rfl
theorem pop_eq (c : UInt8) : pop8 c = ((List.range 8).map fun k => if (c >>> UInt8.ofNat k) % 2 = 1 then 1 else 0).sum := by
  have := List.all_eq_true.1 pop_ok c.toNat (List.mem_range.2 c.toNat_lt)
  rw [UInt8.ofNat_toNat] at this
  simpa using this
theorem cntN_byte (b : List UInt8) (i : Nat) : cntN b (8 * (i + 1)) = cntN b (8 * i) + pop8 (b.getD i 0) := by
  have hb : ∀ k, k < 8 → (bitP b (8 * i + k) ↔ (b.getD i 0 >>> UInt8.ofNat k) % 2 = 1) := by
    intro k hk
    unfold bitP
    rw [show (8 * i + k) / 8 = i by omega, show (8 * i + k) % 8 = k by omega]
  rw [pop_eq, show 8 * (i + 1) = 8 * i + 0 + 1 + 1 + 1 + 1 + 1 + 1 + 1 + 1 by omega]
  simp only [cntN, Nat.add_assoc, Nat.reduceAdd, Nat.add_zero]
  have h0 := hb 0 (by omega)
  rw [Nat.add_zero] at h0
  simp only [h0, hb 1 (by omega), hb 2 (by omega), hb 3 (by omega), hb 4 (by omega), hb 5 (by omega), hb 6 (by omega), hb 7 (by omega)]
  rfl
theorem and1_ok : (List.range 256).all (fun n => decide (UInt8.ofNat n &&& 1 = 0) == !decide (UInt8.ofNat n % 2 = 1)) = true := by kernel_rfl
theorem and1 (x : UInt8) : x &&& 1 = 0 ↔ ¬ x % 2 = 1 := by
  have := List.all_eq_true.1 and1_ok x.toNat (List.mem_range.2 x.toNat_lt)
  rw [UInt8.ofNat_toNat] at this
  simp only [beq_iff_eq] at this
  by_cases h : x % 2 = 1 <;> simp [h] at this ⊢ <;> exact this
def hasE (b : List UInt8) : Nat := if okS (b.length : Int) then 0 else 60
def hasP (x : UInt64) (b h : List UInt8) : Prop := okS (b.length : Int) ∧ ∀ j, j < 4 → bitP b ((plc (dg x h) b.length).getD j 0)
instance (x : UInt64) (b h : List UInt8) : Decidable (hasP x b h) := by unfold hasP; infer_instance
theorem y_ixStr {P : Program} {n : Nat} {f : Nat → Value} {ty t : TypeId} {w : World} {x ix : Operand} {l : List UInt8} {k : IntKind} {i : Int} {m : Nat} (hu : P.underlying t = some .string) (hx : ev n f x = .string (bst l)) (hi : ev n f ix = .int k i) (hm : i = (m : Int)) (hlt : m < l.length) :
    Y P n f (.index t x ix) ty w (B8 (l.getD m 0)) w := by
  intro o ho _
  subst hm
  have h1 : (bst l)[m]? = some (l.getD m 0) := by
    rw [List.getD_eq_getElem?_getD, List.getElem?_eq_getElem hlt]
    have hs : m < (bst l).size := by simpa [bst, ByteArray.size] using hlt
    rw [getElem?_pos (bst l) m hs]
    rfl
  simp [execOp, ho, hx, hi, Instr.index, asIntOf, run_underlying hu, h1]

theorem ones_c (c : UInt8) (w : World) :
    Calls Try.prog 107 (([B8 (c)] : List Value).toArray) w (fun e w' => ∃ v, e = .returned v ∧ v = I ((pop8 c : Nat) : Int) ∧ Below w.heap.size w w') := by
  refine calls_mk Try.func107 rfl 6 Try.ntmps107 rfl ?_
  have H0 : St w [] [] w := St.refl w
  refine c_seq ?_
  refine c_reg ?_
  refine sy (v := I ((0 : Nat) : Int)) (y_assign (v := I ((0 : Nat) : Int)) rfl) ?_
  refine c_nil ?_
  refine n_then ?_
  refine c_seq ?_
  refine c_reg ?_
  refine sy (v := B8 (c)) (y_move rfl) ?_
  refine sy (v := B8 (popT.getD c.toNat 0)) (y_ixStr (l := popT) (m := c.toNat) Try.underlying9 rfl rfl rfl (Nat.lt_of_lt_of_le c.toNat_lt (Nat.le_of_ble_eq_true (by kernel_rfl)))) ?_
  refine sy (v := I (((popT.getD c.toNat 0).toNat : Nat) : Int)) (y_conv_8_I Try.underlying5 Try.underlying3 rfl) ?_
  refine sy (v := I (((popT.getD c.toNat 0).toNat : Nat) : Int)) (y_assign rfl) ?_
  refine c_nil ?_
  refine n_then ?_
  refine wp_ret ?_
  refine e_r1 Try.results107 (rv_t rfl) ?_
  exact ⟨_, rfl, rfl, H0.below⟩

theorem count_c (v0 : Value) (b : List UInt8) (w : World) (h0 : Rd [] w 1 v0 b.length (b.map B8)) (hl : b.length ≤ 140737488355328) :
    Calls Try.prog 63 (([v0] : List Value).toArray) w (fun e w' => ∃ v, e = .returned v ∧ v = I ((cntN b (8 * b.length) : Nat) : Int) ∧ Below w.heap.size w w') := by
  refine calls_mk Try.func63 rfl 18 Try.ntmps63 rfl ?_
  have H0 : St w [] [] w := St.refl w
  refine c_seq ?_
  refine c_reg ?_
  refine sy (v := I ((0 : Nat) : Int)) (y_assign (v := I ((0 : Nat) : Int)) rfl) ?_
  refine c_nil ?_
  refine n_then ?_
  refine c_seq ?_
  refine c_reg ?_
  refine sy (v := I ((0 : Nat) : Int)) (y_assign (v := I ((0 : Nat) : Int)) rfl) ?_
  refine c_nil ?_
  refine n_then ?_
  refine c_seq ?_
  refine c_seq ?_
  refine c_reg ?_
  refine sy (v := v0) (y_move rfl) ?_
  refine sy (v := I ((b.length : Nat) : Int)) (y_lenR Try.underlying23 (h0.st H0) rfl) ?_
  refine sy (v := I ((0 : Nat) : Int)) (y_move (v := I ((0 : Nat) : Int)) rfl) ?_
  refine c_nil ?_
  refine n_then ?_
  refine wp_block ?_
  refine c_loop (fun (i : Nat) f1 w2 => f1 3 = I ((cntN b (8 * i) : Nat) : Int) ∧ f1 6 = v0 ∧ f1 7 = I ((b.length : Nat) : Int) ∧ f1 8 = I ((i : Nat) : Int) ∧ i ≤ b.length ∧ St w [] [] w2) (fun i => b.length - i) 0 ⟨rfl, rfl, rfl, rfl, (by omega), H0⟩ ?_
  rintro i f1 w2 ⟨s3_3, s6_3, s7_3, s8_3, hf0_3, H3⟩
  have hcl := cntN_le b (8 * i)
  have hpp : pop8 (b.getD i 0) ≤ 255 := by have := (popT.getD (b.getD i 0).toNat 0).toNat_lt; unfold pop8; omega
  refine c_seq ?_
  refine c_reg ?_
  refine sy (v := .bool (decide (i < b.length))) (n_lss (a := i) (b := b.length) s8_3 s7_3) ?_
  refine c_nil ?_
  refine n_then ?_
  refine c_seq ?_
  refine c_if rfl (fun hc4 => ?_) (fun hc4 => ?_)
  · skip
    refine wp_skip ?_
    refine n_then ?_
    refine c_seq ?_
    refine wp_block ?_
    refine c_seq ?_
    refine c_reg ?_
    refine sy (v := Ad (sp (v0)) (i * 1)) (y_ixR (m := i) Try.underlying23 sz5 (h0.st H3) (by decide) s6_3 s8_3 rfl (by omega)) ?_
    refine sy (v := B8 (b.getD i 0)) (y_load sc5 rfl ((h0.st H3).cell _ _ (by rw [Nat.mul_one]; exact map_get B8 (l := b) (k := i) 0 (by omega)))) ?_
    refine sy (v := B8 (b.getD i 0)) (y_assign rfl) ?_
    refine c_nil ?_
    refine n_then ?_
    refine c_reg ?_
    refine sy (v := I ((cntN b (8 * i) : Nat) : Int)) (y_move s3_3) ?_
    refine sy (v := B8 (b.getD i 0)) (y_move rfl) ?_
    refine st (ow_call fn107 rfl (ones_c (b.getD i 0) _) ⟨rfl, trivial⟩) ?_
    rintro _ w5 ⟨rfl, hB6⟩
    have H7 : St w [] [] w5 := H3.call hB6
    refine sy (v := I (((cntN b (8 * i)) + (pop8 (b.getD i 0)) : Nat) : Int)) (n_add (a := cntN b (8 * i)) (b := pop8 (b.getD i 0)) rfl rfl (by omega)) ?_
    refine sy (v := I (((cntN b (8 * i)) + (pop8 (b.getD i 0)) : Nat) : Int)) (y_assign rfl) ?_
    refine c_nil ?_
    refine n_block (n_then ?_)
    refine c_reg ?_
    refine sy (v := I ((i + 1 : Nat) : Int)) (n_add (a := i) (b := 1) s8_3 rfl (by omega)) ?_
    refine sy (v := I ((i + 1 : Nat) : Int)) (y_move rfl) ?_
    refine c_nil ?_
    exact lp_next (i + 1) ⟨(by show I _ = I _; rw [cntN_byte]), s6_3, s7_3, rfl, (by omega), H7⟩ (by show _ < _; omega)
  · skip
    obtain rfl : i = b.length := by omega
    refine wp_exit ?_
    refine x_then (x_then (x_hit (n_then ?_)))
    refine c_seq ?_
    refine c_reg ?_
    refine sy (v := I ((cntN b (8 * b.length) : Nat) : Int)) (y_move s3_3) ?_
    refine sy (v := I ((cntN b (8 * b.length) : Nat) : Int)) (y_assign rfl) ?_
    refine c_nil ?_
    refine n_then ?_
    refine wp_ret ?_
    refine e_r1 Try.results63 (rv_t rfl) ?_
    exact ⟨_, rfl, rfl, H3.below⟩

theorem rright_c (v0 : Value) (b : List UInt8) (w : World) (h0 : Rd [] w 1 v0 b.length (b.map B8)) :
    Calls Try.prog 66 (([v0] : List Value).toArray) w (fun e w' => ∃ v, e = .returned v ∧ v = .bool (decide (okS (b.length : Int))) ∧ Below w.heap.size w w') := by
  refine calls_mk Try.func66 rfl 6 Try.ntmps66 rfl ?_
  have H0 : St w [] [] w := St.refl w
  refine c_seq ?_
  refine c_reg ?_
  refine sy (v := .bool (false)) (y_assign (v := .bool (false)) rfl) ?_
  refine c_nil ?_
  refine n_then ?_
  refine c_seq ?_
  refine c_reg ?_
  refine sy (v := v0) (y_move rfl) ?_
  refine sy (v := I ((b.length : Nat) : Int)) (y_lenR Try.underlying23 (h0.st H0) rfl) ?_
  refine st (ow_call fn99 rfl (power_c (((b.length : Nat) : Int)) _) ⟨rfl, trivial⟩) ?_
  rintro _ w1 ⟨rfl, hB2⟩
  have H3 : St w [] [] w1 := H0.call hB2
  refine sy (v := .bool (decide (okS (((b.length : Nat) : Int))))) (y_assign rfl) ?_
  refine c_nil ?_
  refine n_then ?_
  refine wp_ret ?_
  refine e_r1 Try.results66 (rv_t rfl) ?_
  exact ⟨_, rfl, rfl, H3.below⟩

theorem bit_c (v0 : Value) (b : List UInt8) (i : Nat) (w : World) (h0 : Rd [] w 1 v0 b.length (b.map B8)) (hi : i < 8 * b.length) (hi2 : i ≤ 9223372036854775807) :
    Calls Try.prog 108 (([v0, I ((i : Nat) : Int)] : List Value).toArray) w (fun e w' => ∃ v, e = .returned v ∧ v = .bool (decide (bitP b i)) ∧ Below w.heap.size w w') := by
  refine calls_mk Try.func108 rfl 15 Try.ntmps108 rfl ?_
  have H0 : St w [] [] w := St.refl w
  refine c_seq ?_
  refine c_reg ?_
  refine sy (v := .bool (false)) (y_assign (v := .bool (false)) rfl) ?_
  refine c_nil ?_
  refine n_then ?_
  refine c_seq ?_
  refine c_reg ?_
  refine sy (v := v0) (y_move rfl) ?_
  refine sy (v := I ((i : Nat) : Int)) (y_move rfl) ?_
  refine sy (v := I ((i / 8 : Nat) : Int)) (n_quo (a := i) (b := 8) rfl rfl (by omega) (by omega)) ?_
  refine sy (v := Ad (sp (v0)) ((i / 8) * 1)) (y_ixR (m := i / 8) Try.underlying23 sz5 (h0.st H0) (by decide) rfl rfl rfl (by omega)) ?_
  refine sy (v := B8 (b.getD (i / 8) 0)) (y_load sc5 rfl ((h0.st H0).cell _ _ (by rw [Nat.mul_one]; exact map_get B8 (l := b) (k := i / 8) 0 (by omega)))) ?_
  refine sy (v := I ((i : Nat) : Int)) (y_move rfl) ?_
  refine sy (v := I ((i % 8 : Nat) : Int)) (n_rem (a := i) (b := 8) rfl rfl (by omega)) ?_
  refine sy (v := B8 ((b.getD (i / 8) 0) >>> UInt8.ofNat (i % 8))) (n_shr8 (m := i % 8) (c := b.getD (i / 8) 0) rfl rfl (by omega)) ?_
  refine sy (v := B8 (((b.getD (i / 8) 0) >>> UInt8.ofNat (i % 8)) % 2)) (y_rem8 (a := (b.getD (i / 8) 0) >>> UInt8.ofNat (i % 8)) (b := 2) rfl rfl (by decide)) ?_
  refine sy (v := .bool (decide ((((b.getD (i / 8) 0) >>> UInt8.ofNat (i % 8)) % 2) = 1))) (y_eql8 (a := ((b.getD (i / 8) 0) >>> UInt8.ofNat (i % 8)) % 2) (b := 1) rfl rfl) ?_
  refine sy (v := .bool (decide ((((b.getD (i / 8) 0) >>> UInt8.ofNat (i % 8)) % 2) = 1))) (y_assign rfl) ?_
  refine c_nil ?_
  refine n_then ?_
  refine wp_ret ?_
  refine e_r1 Try.results108 (rv_t rfl) ?_
  exact ⟨_, rfl, rfl, H0.below⟩

theorem rcount_c (v0 : Value) (b : List UInt8) (w : World) (h0 : Rd [] w 1 v0 b.length (b.map B8)) (hl : b.length ≤ 140737488355328) :
    Calls Try.prog 67 (([v0] : List Value).toArray) w (fun e w' => ∃ v, e = .returned v ∧ v = I ((cntN b (8 * b.length) : Nat) : Int) ∧ Below w.heap.size w w') := by
  refine calls_mk Try.func67 rfl 20 Try.ntmps67 rfl ?_
  have H0 : St w [] [] w := St.refl w
  refine c_seq ?_
  refine c_reg ?_
  refine sy (v := I ((0 : Nat) : Int)) (y_assign (v := I ((0 : Nat) : Int)) rfl) ?_
  refine c_nil ?_
  refine n_then ?_
  refine c_seq ?_
  refine c_reg ?_
  refine sy (v := I ((0 : Nat) : Int)) (y_assign (v := I ((0 : Nat) : Int)) rfl) ?_
  refine c_nil ?_
  refine n_then ?_
  refine c_seq ?_
  refine c_seq ?_
  refine c_reg ?_
  refine sy (v := I ((0 : Nat) : Int)) (y_assign (v := I ((0 : Nat) : Int)) rfl) ?_
  refine c_nil ?_
  refine n_then ?_
  refine wp_block ?_
  refine c_loop (fun (i : Nat) f1 w2 => f1 0 = v0 ∧ f1 3 = I ((cntN b i : Nat) : Int) ∧ f1 4 = I ((i : Nat) : Int) ∧ i ≤ 8 * b.length ∧ St w [] [] w2) (fun i => 8 * b.length - i) 0 ⟨rfl, rfl, rfl, (by omega), H0⟩ ?_
  rintro i f1 w2 ⟨s0_3, s3_3, s4_3, hf0_3, H3⟩
  have hcl := cntN_le b i
  refine c_seq ?_
  refine c_seq ?_
  refine c_reg ?_
  refine sy (v := I ((i : Nat) : Int)) (y_move s4_3) ?_
  refine sy (v := v0) (y_move s0_3) ?_
  refine sy (v := I ((b.length : Nat) : Int)) (y_lenR Try.underlying23 (h0.st H3) rfl) ?_
  refine sy (v := I ((8 * b.length : Nat) : Int)) (n_mul (a := 8) (b := b.length) rfl rfl (by omega)) ?_
  refine sy (v := .bool (decide (i < (8 * b.length)))) (n_lss (a := i) (b := 8 * b.length) rfl rfl) ?_
  refine c_nil ?_
  refine n_then ?_
  refine c_if rfl (fun hc4 => ?_) (fun hc4 => ?_)
  · skip
    refine wp_skip ?_
    refine n_then ?_
    refine c_seq ?_
    refine wp_block ?_
    refine c_seq ?_
    refine c_reg ?_
    refine sy (v := v0) (y_move s0_3) ?_
    refine sy (v := I ((i : Nat) : Int)) (y_move s4_3) ?_
    refine st (ow_call fn108 rfl (bit_c (v0) (b) (i) _ ((h0.st H3)).nil (by omega) (by omega)) ⟨rfl, rfl, trivial⟩) ?_
    rintro _ w5 ⟨rfl, hB6⟩
    have H7 : St w [] [] w5 := H3.call hB6
    refine sy (v := .bool (decide (bitP b i))) (y_assign rfl) ?_
    refine c_nil ?_
    refine n_then ?_
    refine c_seq ?_
    refine c_reg ?_
    refine sy (v := .bool (decide (bitP b i))) (y_move rfl) ?_
    refine c_nil ?_
    refine n_then ?_
    refine c_if rfl (fun hc8 => ?_) (fun hc8 => ?_)
    · skip
      refine c_reg ?_
      refine sy (v := I ((cntN b i : Nat) : Int)) (y_move s3_3) ?_
      refine sy (v := I (((cntN b i) + 1 : Nat) : Int)) (n_add (a := cntN b i) (b := 1) rfl rfl (by omega)) ?_
      refine sy (v := I (((cntN b i) + 1 : Nat) : Int)) (y_assign rfl) ?_
      refine c_nil ?_
      refine n_block (n_then ?_)
      refine c_reg ?_
      refine sy (v := I ((i : Nat) : Int)) (y_move s4_3) ?_
      refine sy (v := I ((i + 1 : Nat) : Int)) (n_add (a := i) (b := 1) rfl rfl (by omega)) ?_
      refine sy (v := I ((i + 1 : Nat) : Int)) (y_assign rfl) ?_
      refine c_nil ?_
      exact lp_next (i + 1) ⟨s0_3, (by simp only [cntN]; first | (rw [if_pos (by assumption)]; rfl) | (rw [if_neg (by assumption)]; exact rfl)), rfl, (by omega), H7⟩ (by show _ < _; omega)
    · skip
      refine wp_skip ?_
      refine n_block (n_then ?_)
      refine c_reg ?_
      refine sy (v := I ((i : Nat) : Int)) (y_move s4_3) ?_
      refine sy (v := I ((i + 1 : Nat) : Int)) (n_add (a := i) (b := 1) rfl rfl (by omega)) ?_
      refine sy (v := I ((i + 1 : Nat) : Int)) (y_assign rfl) ?_
      refine c_nil ?_
      exact lp_next (i + 1) ⟨s0_3, (by simp only [cntN]; first | (rw [if_pos (by assumption)]; rfl) | (rw [if_neg (by assumption)]; exact s3_3)), rfl, (by omega), H7⟩ (by show _ < _; omega)
  · skip
    obtain rfl : i = (8 * b.length) := by omega
    refine wp_exit ?_
    refine x_then (x_then (x_hit (n_then ?_)))
    refine c_seq ?_
    refine c_reg ?_
    refine sy (v := I ((cntN b (8 * b.length) : Nat) : Int)) (y_move s3_3) ?_
    refine sy (v := I ((cntN b (8 * b.length) : Nat) : Int)) (y_assign rfl) ?_
    refine c_nil ?_
    refine n_then ?_
    refine wp_ret ?_
    refine e_r1 Try.results67 (rv_t rfl) ?_
    exact ⟨_, rfl, rfl, H3.below⟩

theorem has_c (x : UInt64) (v1 : Value) (b h : List UInt8) (w : World) (h1 : Rd [] w 1 v1 b.length (b.map B8)) (hh : h.length = 32) :
    Calls Try.prog 64 (([U64 (x), v1, .agg ((h).map B8).toArray] : List Value).toArray) w (fun e w' => ∃ v, e = .returned v ∧ v = .tuple #[.bool (decide (hasP x b h)), I ((hasE b : Nat) : Int)] ∧ Below w.heap.size w w') := by
  refine calls_mk Try.func64 rfl 34 Try.ntmps64 rfl ?_
  have H0 : St w [] [] w := St.refl w
  refine c_seq ?_
  refine c_reg ?_
  refine st (ow_box (l := (h).map B8) H0 rfl rfl) ?_
  rintro _ w2 ⟨g1, rfl, H3⟩
  refine sy (v := .bool (false)) (y_assign (v := .bool (false)) rfl) ?_
  refine sy (v := I ((0 : Nat) : Int)) (y_assign (v := I ((0 : Nat) : Int)) rfl) ?_
  refine c_nil ?_
  refine n_then ?_
  refine c_seq ?_
  refine c_seq ?_
  refine c_reg ?_
  refine sy (v := v1) (y_move rfl) ?_
  refine st (ow_call fn62 rfl (right_c (v1) (b) _ ((h1.st H3)).nil) ⟨rfl, trivial⟩) ?_
  rintro _ w4 ⟨rfl, hB5⟩
  have H6 : St w [] [[(g1, Rw 26 ((h).map B8))]] w4 := H3.call hB5
  refine sy (v := .bool (decide (¬ (okS ((b.length : Nat) : Int))))) (y_notP rfl) ?_
  refine c_nil ?_
  refine n_then ?_
  refine c_if rfl (fun hc7 => ?_) (fun hc7 => ?_)
  · skip
    refine c_seq ?_
    refine c_reg ?_
    refine sy (v := .bool (false)) (y_assign (v := .bool (false)) rfl) ?_
    refine sy (v := I ((60 : Nat) : Int)) (y_assign (v := I ((60 : Nat) : Int)) rfl) ?_
    refine c_nil ?_
    refine n_then ?_
    refine wp_ret ?_
    refine r_then ?_
    refine e_r2 Try.results64 (rv_t rfl) (rv_t rfl) ?_
    have hno : ¬ okS (b.length : Int) := by assumption
    exact ⟨_, rfl, by rw [hasE, if_neg hno, decide_eq_false (fun hp : hasP x b h => hno hp.1)]; rfl, H6.below⟩
  · skip
    have hok : okS (b.length : Int) := Decidable.not_not.1 hc7
    have hole := okS_le hok
    have hpl : (plc (dg x h) b.length).length = 4 := plc_length _ _
    refine wp_skip ?_
    refine n_then ?_
    refine c_seq ?_
    refine c_seq ?_
    refine c_reg ?_
    refine sy (v := U64 (x)) (y_move rfl) ?_
    refine sy (v := .agg ((h).map B8).toArray) (y_loadA (us := (h).map B8) ag26 sz26 ((List.length_map _).trans hh) rfl (fun j u hu => (H6.cell 0 rfl (by rw [Nat.zero_add]; exact hu)))) ?_
    refine sy (v := v1) (y_move rfl) ?_
    refine sy (v := I ((b.length : Nat) : Int)) (y_lenR Try.underlying23 (h1.st H6) rfl) ?_
    refine st (ow_call fn42 rfl (places_c (x) (h) b.length _ hh hok) ⟨rfl, rfl, rfl, trivial⟩) ?_
    rintro v8 w9 ⟨E10, ho11, H12⟩
    have H13 : St w [] [E10, [(g1, Rw 26 ((h).map B8))]] w9 := H6.app H12
    refine sy (v := I (((plc (dg (x) (h)) b.length).length : Nat) : Int)) (y_lenR Try.underlying60 (ho11.rd H13 0 rfl) rfl) ?_
    refine sy (v := I ((0 : Nat) : Int)) (y_move (v := I ((0 : Nat) : Int)) rfl) ?_
    refine c_nil ?_
    refine n_then ?_
    refine wp_block ?_
    refine c_loop (fun (k : Nat) f14 w15 => f14 1 = v1 ∧ f14 17 = v8 ∧ f14 18 = I (((plc (dg (x) (h)) b.length).length : Nat) : Int) ∧ f14 19 = I ((k : Nat) : Int) ∧ k ≤ 4 ∧ (∀ j, j < k → bitP b ((plc (dg x h) b.length).getD j 0)) ∧ St w [] [E10, [(g1, Rw 26 ((h).map B8))]] w15) (fun k => 4 - k) 0 ⟨rfl, rfl, rfl, rfl, (by omega), (fun j hj => absurd hj (by omega)), H13⟩ ?_
    rintro k f14 w15 ⟨s1_16, s17_16, s18_16, s19_16, hk, hall, H16⟩
    refine c_seq ?_
    refine c_reg ?_
    refine sy (v := .bool (decide (k < ((plc (dg (x) (h)) b.length).length)))) (n_lss (a := k) (b := (plc (dg (x) (h)) b.length).length) s19_16 s18_16) ?_
    refine c_nil ?_
    refine n_then ?_
    refine c_seq ?_
    refine c_if rfl (fun hc17 => ?_) (fun hc17 => ?_)
    · skip
      have hpk := getD_plc (s := dg x h) (z := b.length) (k := k) (by omega) (by omega)
      refine wp_skip ?_
      refine n_then ?_
      refine c_seq ?_
      refine wp_block ?_
      refine c_seq ?_
      refine c_reg ?_
      refine sy (v := Ad (sp (v8)) (k * 1)) (y_ixR (m := k) Try.underlying60 sz3 (ho11.rd H16 0 rfl) (by decide) s17_16 s19_16 rfl (by omega)) ?_
      refine sy (v := I (((plc (dg (x) (h)) b.length).getD k 0 : Nat) : Int)) (y_load sc3 rfl ((ho11.rd H16 0 rfl).cell _ _ (by rw [Nat.mul_one]; exact map_get IN (l := plc (dg (x) (h)) b.length) (k := k) 0 (by omega)))) ?_
      refine sy (v := I (((plc (dg (x) (h)) b.length).getD k 0 : Nat) : Int)) (y_assign rfl) ?_
      refine c_nil ?_
      refine n_then ?_
      refine c_seq ?_
      refine c_reg ?_
      refine sy (v := v1) (y_move s1_16) ?_
      refine sy (v := I (((plc (dg (x) (h)) b.length).getD k 0 : Nat) : Int)) (y_move rfl) ?_
      refine sy (v := I ((((plc (dg (x) (h)) b.length).getD k 0) / 8 : Nat) : Int)) (n_quo (a := (plc (dg (x) (h)) b.length).getD k 0) (b := 8) rfl rfl (by omega) (by omega)) ?_
      refine sy (v := Ad (sp (v1)) ((((plc (dg (x) (h)) b.length).getD k 0) / 8) * 1)) (y_ixR (m := ((plc (dg (x) (h)) b.length).getD k 0) / 8) Try.underlying23 sz5 (h1.st H16) (by decide) rfl rfl rfl (by omega)) ?_
      refine sy (v := B8 (b.getD (((plc (dg (x) (h)) b.length).getD k 0) / 8) 0)) (y_load sc5 rfl ((h1.st H16).cell _ _ (by rw [Nat.mul_one]; exact map_get B8 (l := b) (k := ((plc (dg (x) (h)) b.length).getD k 0) / 8) 0 (by omega)))) ?_
      refine sy (v := I (((plc (dg (x) (h)) b.length).getD k 0 : Nat) : Int)) (y_move rfl) ?_
      refine sy (v := I ((((plc (dg (x) (h)) b.length).getD k 0) % 8 : Nat) : Int)) (n_rem (a := (plc (dg (x) (h)) b.length).getD k 0) (b := 8) rfl rfl (by omega)) ?_
      refine sy (v := B8 ((b.getD (((plc (dg (x) (h)) b.length).getD k 0) / 8) 0) >>> UInt8.ofNat (((plc (dg (x) (h)) b.length).getD k 0) % 8))) (n_shr8 (m := ((plc (dg (x) (h)) b.length).getD k 0) % 8) (c := b.getD (((plc (dg (x) (h)) b.length).getD k 0) / 8) 0) rfl rfl (by omega)) ?_
      refine sy (v := B8 (((b.getD (((plc (dg (x) (h)) b.length).getD k 0) / 8) 0) >>> UInt8.ofNat (((plc (dg (x) (h)) b.length).getD k 0) % 8)) &&& 1)) (y_and8 (a := (b.getD (((plc (dg (x) (h)) b.length).getD k 0) / 8) 0) >>> UInt8.ofNat (((plc (dg (x) (h)) b.length).getD k 0) % 8)) (b := 1) rfl rfl) ?_
      refine sy (v := .bool (decide ((((b.getD (((plc (dg (x) (h)) b.length).getD k 0) / 8) 0) >>> UInt8.ofNat (((plc (dg (x) (h)) b.length).getD k 0) % 8)) &&& 1) = 0))) (y_eql8 (a := ((b.getD (((plc (dg (x) (h)) b.length).getD k 0) / 8) 0) >>> UInt8.ofNat (((plc (dg (x) (h)) b.length).getD k 0) % 8)) &&& 1) (b := 0) rfl rfl) ?_
      refine c_nil ?_
      refine n_then ?_
      refine c_if rfl (fun hc18 => ?_) (fun hc18 => ?_)
      · skip
        refine c_seq ?_
        refine c_reg ?_
        refine sy (v := .bool (false)) (y_assign (v := .bool (false)) rfl) ?_
        refine sy (v := I ((0 : Nat) : Int)) (y_assign (v := I ((0 : Nat) : Int)) rfl) ?_
        refine c_nil ?_
        refine n_then ?_
        refine wp_ret ?_
        refine r_block (r_then (r_then (r_block (r_then ?_))))
        refine e_r2 Try.results64 (rv_t rfl) (rv_t rfl) ?_
        have hno : ¬ hasP x b h := fun hp => by have hq := hp.2 k (by omega); first | exact (and1 _).1 (by assumption) hq | contradiction
        exact ⟨_, rfl, by rw [hasE, if_pos hok, decide_eq_false hno]; rfl, H16.below⟩
      · skip
        have hbk : bitP b ((plc (dg x h) b.length).getD k 0) := Decidable.not_not.1 (fun hn => hc18 ((and1 _).2 hn))
        refine wp_skip ?_
        refine n_block (n_then ?_)
        refine c_reg ?_
        refine sy (v := I ((k + 1 : Nat) : Int)) (n_add (a := k) (b := 1) s19_16 rfl (by omega)) ?_
        refine sy (v := I ((k + 1 : Nat) : Int)) (y_move rfl) ?_
        refine c_nil ?_
        exact lp_next (k + 1) ⟨s1_16, s17_16, s18_16, rfl, (by omega), (fun j hj => (Nat.lt_or_ge j k).elim (hall j) (fun hge => (show j = k by omega) ▸ hbk)), H16⟩ (by show _ < _; omega)
    · skip
      refine wp_exit ?_
      refine x_then (x_then (x_hit (n_then ?_)))
      refine c_seq ?_
      refine c_reg ?_
      refine sy (v := .bool (true)) (y_assign (v := .bool (true)) rfl) ?_
      refine sy (v := I ((0 : Nat) : Int)) (y_assign (v := I ((0 : Nat) : Int)) rfl) ?_
      refine c_nil ?_
      refine n_then ?_
      refine wp_ret ?_
      refine e_r2 Try.results64 (rv_t rfl) (rv_t rfl) ?_
      have hyes : hasP x b h := ⟨hok, fun j hj => hall j (by omega)⟩
      exact ⟨_, rfl, by rw [hasE, if_pos hok, decide_eq_true hyes]; rfl, H16.below⟩

theorem rhas_c (x : UInt64) (v1 : Value) (b h : List UInt8) (w : World) (h1 : Rd [] w 1 v1 b.length (b.map B8)) (hh : h.length = 32) :
    Calls Try.prog 65 (([U64 (x), v1, .agg ((h).map B8).toArray] : List Value).toArray) w (fun e w' => ∃ v, e = .returned v ∧ v = .tuple #[.bool (decide (hasP x b h)), I ((hasE b : Nat) : Int)] ∧ Below w.heap.size w w') := by
  refine calls_mk Try.func65 rfl 36 Try.ntmps65 rfl ?_
  have H0 : St w [] [] w := St.refl w
  refine c_seq ?_
  refine c_reg ?_
  refine st (ow_box (l := (h).map B8) H0 rfl rfl) ?_
  rintro _ w2 ⟨g1, rfl, H3⟩
  refine sy (v := .bool (false)) (y_assign (v := .bool (false)) rfl) ?_
  refine sy (v := I ((0 : Nat) : Int)) (y_assign (v := I ((0 : Nat) : Int)) rfl) ?_
  refine c_nil ?_
  refine n_then ?_
  refine c_seq ?_
  refine c_reg ?_
  refine sy (v := v1) (y_move rfl) ?_
  refine sy (v := I ((b.length : Nat) : Int)) (y_lenR Try.underlying23 (h1.st H3) rfl) ?_
  refine st (ow_call fn99 rfl (power_c (((b.length : Nat) : Int)) _) ⟨rfl, trivial⟩) ?_
  rintro _ w4 ⟨rfl, hB5⟩
  have H6 : St w [] [[(g1, Rw 26 ((h).map B8))]] w4 := H3.call hB5
  refine sy (v := .bool (decide (okS (((b.length : Nat) : Int))))) (y_assign rfl) ?_
  refine c_nil ?_
  refine n_then ?_
  refine c_seq ?_
  refine c_seq ?_
  refine c_reg ?_
  refine sy (v := .bool (decide (okS (((b.length : Nat) : Int))))) (y_move rfl) ?_
  refine sy (v := .bool (decide (¬ (okS (((b.length : Nat) : Int)))))) (y_notP rfl) ?_
  refine c_nil ?_
  refine n_then ?_
  refine c_if rfl (fun hc7 => ?_) (fun hc7 => ?_)
  · skip
    refine c_seq ?_
    refine c_reg ?_
    refine sy (v := .bool (false)) (y_assign (v := .bool (false)) rfl) ?_
    refine sy (v := I ((60 : Nat) : Int)) (y_assign (v := I ((60 : Nat) : Int)) rfl) ?_
    refine c_nil ?_
    refine n_then ?_
    refine wp_ret ?_
    refine r_then ?_
    refine e_r2 Try.results65 (rv_t rfl) (rv_t rfl) ?_
    have hno : ¬ okS (b.length : Int) := by assumption
    exact ⟨_, rfl, by rw [hasE, if_neg hno, decide_eq_false (fun hp : hasP x b h => hno hp.1)]; rfl, H6.below⟩
  · skip
    have hok : okS (b.length : Int) := Decidable.not_not.1 hc7
    have hole := okS_le hok
    have hpl : (plc (dg x h) b.length).length = 4 := plc_length _ _
    refine wp_skip ?_
    refine n_then ?_
    refine c_seq ?_
    refine c_reg ?_
    refine sy (v := U64 (x)) (y_move rfl) ?_
    refine sy (v := .agg ((h).map B8).toArray) (y_loadA (us := (h).map B8) ag26 sz26 ((List.length_map _).trans hh) rfl (fun j u hu => (H6.cell 0 rfl (by rw [Nat.zero_add]; exact hu)))) ?_
    refine sy (v := v1) (y_move rfl) ?_
    refine sy (v := I ((b.length : Nat) : Int)) (y_lenR Try.underlying23 (h1.st H6) rfl) ?_
    refine st (ow_call fn41 rfl (rplaces_c (x) (h) b.length _ hh hok) ⟨rfl, rfl, rfl, trivial⟩) ?_
    rintro v8 w9 ⟨E10, ho11, H12⟩
    have H13 : St w [] [E10, [(g1, Rw 26 ((h).map B8))]] w9 := H6.app H12
    refine sy (v := v8) (y_assign rfl) ?_
    refine c_nil ?_
    refine n_then ?_
    refine c_seq ?_
    refine c_seq ?_
    refine c_reg ?_
    refine sy (v := I ((0 : Nat) : Int)) (y_assign (v := I ((0 : Nat) : Int)) rfl) ?_
    refine c_nil ?_
    refine n_then ?_
    refine wp_block ?_
    refine c_loop (fun (k : Nat) f14 w15 => f14 1 = v1 ∧ f14 9 = v8 ∧ f14 10 = I ((k : Nat) : Int) ∧ k ≤ 4 ∧ (∀ j, j < k → bitP b ((plc (dg x h) b.length).getD j 0)) ∧ St w [] [E10, [(g1, Rw 26 ((h).map B8))]] w15) (fun k => 4 - k) 0 ⟨rfl, rfl, rfl, (by omega), (fun j hj => absurd hj (by omega)), H13⟩ ?_
    rintro k f14 w15 ⟨s1_16, s9_16, s10_16, hk, hall, H16⟩
    refine c_seq ?_
    refine c_seq ?_
    refine c_reg ?_
    refine sy (v := I ((k : Nat) : Int)) (y_move s10_16) ?_
    refine sy (v := v8) (y_move s9_16) ?_
    refine sy (v := I (((plc (dg (x) (h)) b.length).length : Nat) : Int)) (y_lenR Try.underlying60 (ho11.rd H16 0 rfl) rfl) ?_
    refine sy (v := .bool (decide (k < ((plc (dg (x) (h)) b.length).length)))) (n_lss (a := k) (b := (plc (dg (x) (h)) b.length).length) rfl rfl) ?_
    refine c_nil ?_
    refine n_then ?_
    refine c_if rfl (fun hc17 => ?_) (fun hc17 => ?_)
    · skip
      have hpk := getD_plc (s := dg x h) (z := b.length) (k := k) (by omega) (by omega)
      refine wp_skip ?_
      refine n_then ?_
      refine c_seq ?_
      refine wp_block ?_
      refine c_seq ?_
      refine c_reg ?_
      refine sy (v := v1) (y_move s1_16) ?_
      refine sy (v := v8) (y_move s9_16) ?_
      refine sy (v := I ((k : Nat) : Int)) (y_move s10_16) ?_
      refine sy (v := Ad (sp (v8)) (k * 1)) (y_ixR (m := k) Try.underlying60 sz3 (ho11.rd H16 0 rfl) (by decide) rfl rfl rfl (by omega)) ?_
      refine sy (v := I (((plc (dg (x) (h)) b.length).getD k 0 : Nat) : Int)) (y_load sc3 rfl ((ho11.rd H16 0 rfl).cell _ _ (by rw [Nat.mul_one]; exact map_get IN (l := plc (dg (x) (h)) b.length) (k := k) 0 (by omega)))) ?_
      refine st (ow_call fn108 rfl (bit_c (v1) (b) ((plc (dg (x) (h)) b.length).getD k 0) _ ((h1.st H16)).nil (by omega) (by omega)) ⟨rfl, rfl, trivial⟩) ?_
      rintro _ w18 ⟨rfl, hB19⟩
      have H20 : St w [] [E10, [(g1, Rw 26 ((h).map B8))]] w18 := H16.call hB19
      refine sy (v := .bool (decide (bitP b ((plc (dg (x) (h)) b.length).getD k 0)))) (y_assign rfl) ?_
      refine c_nil ?_
      refine n_then ?_
      refine c_seq ?_
      refine c_reg ?_
      refine sy (v := .bool (decide (bitP b ((plc (dg (x) (h)) b.length).getD k 0)))) (y_move rfl) ?_
      refine sy (v := .bool (decide (¬ (bitP b ((plc (dg (x) (h)) b.length).getD k 0))))) (y_notP rfl) ?_
      refine c_nil ?_
      refine n_then ?_
      refine c_if rfl (fun hc21 => ?_) (fun hc21 => ?_)
      · skip
        refine c_seq ?_
        refine c_reg ?_
        refine sy (v := .bool (false)) (y_assign (v := .bool (false)) rfl) ?_
        refine sy (v := I ((0 : Nat) : Int)) (y_assign (v := I ((0 : Nat) : Int)) rfl) ?_
        refine c_nil ?_
        refine n_then ?_
        refine wp_ret ?_
        refine r_block (r_then (r_then (r_block (r_then ?_))))
        refine e_r2 Try.results65 (rv_t rfl) (rv_t rfl) ?_
        have hno : ¬ hasP x b h := fun hp => by have hq := hp.2 k (by omega); first | exact (and1 _).1 (by assumption) hq | contradiction
        exact ⟨_, rfl, by rw [hasE, if_pos hok, decide_eq_false hno]; rfl, H20.below⟩
      · skip
        have hbk : bitP b ((plc (dg x h) b.length).getD k 0) := Decidable.not_not.1 hc21
        refine wp_skip ?_
        refine n_block (n_then ?_)
        refine c_reg ?_
        refine sy (v := I ((k : Nat) : Int)) (y_move s10_16) ?_
        refine sy (v := I ((k + 1 : Nat) : Int)) (n_add (a := k) (b := 1) rfl rfl (by omega)) ?_
        refine sy (v := I ((k + 1 : Nat) : Int)) (y_assign rfl) ?_
        refine c_nil ?_
        exact lp_next (k + 1) ⟨s1_16, s9_16, rfl, (by omega), (fun j hj => (Nat.lt_or_ge j k).elim (hall j) (fun hge => (show j = k by omega) ▸ hbk)), H20⟩ (by show _ < _; omega)
    · skip
      refine wp_exit ?_
      refine x_then (x_then (x_hit (n_then ?_)))
      refine c_seq ?_
      refine c_reg ?_
      refine sy (v := .bool (true)) (y_assign (v := .bool (true)) rfl) ?_
      refine sy (v := I ((0 : Nat) : Int)) (y_assign (v := I ((0 : Nat) : Int)) rfl) ?_
      refine c_nil ?_
      refine n_then ?_
      refine wp_ret ?_
      refine e_r2 Try.results65 (rv_t rfl) (rv_t rfl) ?_
      have hyes : hasP x b h := ⟨hok, fun j hj => hall j (by omega)⟩
      exact ⟨_, rfl, by rw [hasE, if_pos hok, decide_eq_true hyes]; rfl, H16.below⟩

end Go.Proofs.Ytdcmbcjkdhdohaa
