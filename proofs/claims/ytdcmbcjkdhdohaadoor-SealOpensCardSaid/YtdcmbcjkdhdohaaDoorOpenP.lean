/- The plain laws of sealed messages: what Open takes is what Seal tells; a sealed message is taken; turned, cut short or followed by more it is not. -/
import Derived.Test.YtdcmbcjkdhdohaaDoorOpenL
namespace Go.Proofs.YtdcmbcjkdhdohaaDoor
open Go Go.RowKit
set_option linter.unusedSimpArgs false
set_option linter.unusedVariables false

theorem hdM_none {b : List UInt8} : ∀ (k i : Nat), hdM b k i = none ↔ (k = 0 ∨ i + k ≤ b.length) ∧ ∀ j, i ≤ j → j < i + k → b.getD j 0 = markL.getD j 0
  | 0, i => by simp only [hdM, true_or, true_and, true_iff]; intro j h1 h2; omega
  | k + 1, i => by
    simp only [hdM]
    by_cases h1 : b.length ≤ i
    · rw [if_pos h1]
      constructor
      · intro h; cases h
      · rintro ⟨h | h, -⟩ <;> omega
    · rw [if_neg h1]
      by_cases h2 : b.getD i 0 ≠ markL.getD i 0
      · rw [if_pos h2]
        constructor
        · intro h; cases h
        · rintro ⟨-, h⟩
          exact absurd (h i (Nat.le_refl _) (by omega)) h2
      · rw [if_neg h2, hdM_none k (i + 1)]
        have h2' : b.getD i 0 = markL.getD i 0 := Decidable.not_not.1 h2
        constructor
        · rintro ⟨h3, h4⟩
          refine ⟨.inr (by omega), fun j hj hj2 => ?_⟩
          by_cases e : j = i
          · subst e; exact h2'
          · exact h4 j (by omega) (by omega)
        · rintro ⟨h3, h4⟩
          exact ⟨by omega, fun j hj hj2 => h4 j (by omega) (by omega)⟩
theorem hdR_none {b : List UInt8} : ∀ (k i : Nat), hdR b k i = none ↔ (k = 0 ∨ i + k ≤ b.length) ∧ ∀ j, i ≤ j → j < i + k → repl ((b.getD j 0).toNat : Int)
  | 0, i => by simp only [hdR, true_or, true_and, true_iff]; intro j h1 h2; omega
  | k + 1, i => by
    simp only [hdR]
    by_cases h1 : b.length ≤ i
    · rw [if_pos h1]
      constructor
      · intro h; cases h
      · rintro ⟨h | h, -⟩ <;> omega
    · rw [if_neg h1]
      by_cases h2 : ¬ repl ((b.getD i 0).toNat : Int)
      · rw [if_pos h2]
        constructor
        · intro h; cases h
        · rintro ⟨-, h⟩
          exact absurd (h i (Nat.le_refl _) (by omega)) h2
      · rw [if_neg h2, hdR_none k (i + 1)]
        have h2' := Decidable.not_not.1 h2
        constructor
        · rintro ⟨h3, h4⟩
          refine ⟨.inr (by omega), fun j hj hj2 => ?_⟩
          by_cases e : j = i
          · subst e; exact h2'
          · exact h4 j (by omega) (by omega)
        · rintro ⟨h3, h4⟩
          exact ⟨by omega, fun j hj hj2 => h4 j (by omega) (by omega)⟩
theorem hdE_none {b : List UInt8} : hdE b = none ↔ 10 ≤ b.length ∧ (∀ j, j < 4 → b.getD j 0 = markL.getD j 0) ∧ repl ((b.getD 4 0).toNat : Int) ∧ repl ((b.getD 5 0).toNat : Int) ∧ hdN b ≤ 2097152 := by
  unfold hdE
  constructor
  · intro h
    cases h1 : hdM b 4 0 with
    | some e => rw [h1] at h; cases h
    | none =>
      cases h2 : hdR b 2 4 with
      | some e => rw [h1, h2] at h; cases h
      | none =>
        rw [h1, h2] at h
        simp only [] at h
        have h3 := (hdM_none 4 0).1 h1
        have h4 := (hdR_none 2 4).1 h2
        split at h
        · cases h
        · split at h
          · cases h
          · exact ⟨by omega, fun j hj => h3.2 j (by omega) (by omega), h4.2 4 (by omega) (by omega), h4.2 5 (by omega) (by omega), by omega⟩
  · rintro ⟨h1, h2, h3, h4, h5⟩
    rw [(hdM_none 4 0).2 ⟨.inr (by omega), fun j _ hj => h2 j (by omega)⟩, (hdR_none 2 4).2 ⟨.inr (by omega), fun j hj hj2 => ?_⟩]
    · simp only []
      rw [if_neg (by omega), if_neg (by omega)]
    · obtain rfl | rfl : j = 4 ∨ j = 5 := by omega
      · exact h3
      · exact h4
theorem opE_none {lk b : List UInt8} : opE lk b = none ↔ lk.length = 32 ∧ hdE b = none ∧ b.length = hdN b + 42 ∧ b.drop (10 + hdN b) = hmac lk (b.take (10 + hdN b)) := by
  unfold opE
  constructor
  · intro h
    split at h
    · cases h
    · rename_i h0
      cases h1 : hdE b with
      | some e => rw [h1] at h; cases h
      | none =>
        rw [h1] at h
        simp only [] at h
        split at h
        · cases h
        · split at h
          · cases h
          · split at h
            · cases h
            · rename_i h2 h3 h4
              exact ⟨by omega, rfl, by omega, Decidable.not_not.1 h4⟩
  · rintro ⟨h0, h1, h2, h3⟩
    rw [if_neg (by omega), h1]
    simp only []
    rw [if_neg (by omega), if_neg (by omega), if_neg (not_not_intro h3)]
/-- What Open tells. -/
def opF (lk b : List UInt8) : Nat := if opE lk b = none then (b.getD 4 0).toNat else 0
def opT (lk b : List UInt8) : Nat := if opE lk b = none then (b.getD 5 0).toNat else 0
def opB (lk b : List UInt8) : List UInt8 := if opE lk b = none then (b.drop 10).take (hdN b) else []

theorem b8_nat (x : UInt8) : b8 ((x.toNat : Nat) : Int) = x := by
  apply UInt8.toNat_inj.1
  have := b8_val (x.toNat : Int)
  have := x.toNat_lt
  omega
theorem ten {b : List UInt8} (h : 10 ≤ b.length) : ∃ b0 b1 b2 b3 b4 b5 b6 b7 b8 b9 t, b = b0 :: b1 :: b2 :: b3 :: b4 :: b5 :: b6 :: b7 :: b8 :: b9 :: t := by
  match b, h with
  | b0 :: b1 :: b2 :: b3 :: b4 :: b5 :: b6 :: b7 :: b8 :: b9 :: t, _ => exact ⟨b0, b1, b2, b3, b4, b5, b6, b7, b8, b9, t, rfl⟩
theorem b8_mod {x : UInt8} {k : Nat} (h : k % 256 = x.toNat) : b8 (k : Int) = x := by
  apply UInt8.toNat_inj.1
  have := b8_val (k : Int)
  omega
theorem b8_nat' {k : Nat} (h : k < 256) : (b8 (k : Int)).toNat = k := by
  have := b8_val (k : Int)
  omega
theorem head_take {b : List UInt8} (h : 10 ≤ b.length) (hm : ∀ j, j < 4 → b.getD j 0 = markL.getD j 0) : headL (b.getD 4 0).toNat (b.getD 5 0).toNat (hdN b) = b.take 10 := by
  obtain ⟨b0, b1, b2, b3, b4, b5, b6, b7, c8, c9, t, rfl⟩ := ten h
  have m0 : b0 = 80 := hm 0 (by omega)
  have m1 : b1 = 76 := hm 1 (by omega)
  have m2 : b2 = 69 := hm 2 (by omega)
  have m3 : b3 = 49 := hm 3 (by omega)
  subst m0 m1 m2 m3
  have l6 := b6.toNat_lt
  have l7 := b7.toNat_lt
  have l8 := c8.toNat_lt
  have l9 := c9.toNat_lt
  have e : hdN (80 :: 76 :: 69 :: 49 :: b4 :: b5 :: b6 :: b7 :: c8 :: c9 :: t) = b6.toNat + 256 * b7.toNat + 65536 * c8.toNat + 16777216 * c9.toNat := rfl
  rw [e]
  show headL (b4.toNat : Int) (b5.toNat : Int) _ = [80, 76, 69, 49, b4, b5, b6, b7, c8, c9]
  unfold headL
  rw [b8_nat, b8_nat, b8_mod (x := b6) (by omega), b8_mod (x := b7) (by omega), b8_mod (x := c8) (by omega), b8_mod (x := c9) (by omega)]
theorem sealed_ok {lk b : List UInt8} (h : opE lk b = none) : sealOk lk (b.getD 4 0).toNat (b.getD 5 0).toNat ∧ ((b.drop 10).take (hdN b)).length ≤ 2097152 ∧ ((b.drop 10).take (hdN b)).length = hdN b := by
  obtain ⟨h0, h1, h2, h3⟩ := opE_none.1 h
  obtain ⟨g1, g2, g3, g4, g5⟩ := hdE_none.1 h1
  exact ⟨⟨h0, g3, g4⟩, by rw [List.length_take, List.length_drop]; omega, by rw [List.length_take, List.length_drop]; omega⟩
theorem once_eq {lk b : List UInt8} (h : opE lk b = none) : sealL lk (b.getD 4 0).toNat (b.getD 5 0).toNat ((b.drop 10).take (hdN b)) = b := by
  obtain ⟨k1, k2, k3⟩ := sealed_ok h
  obtain ⟨h0, h1, h2, h3⟩ := opE_none.1 h
  obtain ⟨g1, g2, g3, g4, g5⟩ := hdE_none.1 h1
  unfold sealL
  rw [if_pos ⟨k1, k2⟩, k3, head_take g1 g2]
  have e : b.take 10 ++ (b.drop 10).take (hdN b) = b.take (10 + hdN b) := by rw [List.take_add]
  rw [e, ← h3, List.take_append_drop]
theorem once_er {lk b : List UInt8} (h : opE lk b = none) : sealEr lk (b.getD 4 0).toNat (b.getD 5 0).toNat ((b.drop 10).take (hdN b)) = 0 := by
  obtain ⟨k1, k2, k3⟩ := sealed_ok h
  unfold sealEr
  rw [if_pos k1, if_neg (by omega)]

section
variable {lk l : List UInt8} {fr to : Int}
theorem headL_len (n : Nat) : (headL fr to n).length = 10 := rfl
theorem sealL_eq (hk : sealOk lk fr to) (hl : l.length ≤ 2097152) : sealL lk fr to l = headL fr to l.length ++ l ++ hmac lk (headL fr to l.length ++ l) := by unfold sealL; rw [if_pos ⟨hk, hl⟩]
theorem sealL_len (hk : sealOk lk fr to) (hl : l.length ≤ 2097152) : (sealL lk fr to l).length = l.length + 42 := by
  rw [sealL_eq hk hl, List.length_append, List.length_append, hmac_length, headL_len]; omega
/-- The head of bytes that begin with a sealed message's head. -/
theorem head_of (r : List UInt8) (hk : sealOk lk fr to) (hl : l.length ≤ 2097152) : hdN (headL fr to l.length ++ r) = l.length ∧ (∀ j, j < 4 → (headL fr to l.length ++ r).getD j 0 = markL.getD j 0) ∧
    ((headL fr to l.length ++ r).getD 4 0).toNat = fr ∧ ((headL fr to l.length ++ r).getD 5 0).toNat = to := by
  have v0 := b8_val (l.length : Int)
  have v1 := b8_val ((l.length / 256 : Nat) : Int)
  have v2 := b8_val ((l.length / 65536 : Nat) : Int)
  have v3 := b8_val ((l.length / 16777216 : Nat) : Int)
  have v4 := b8_val fr
  have v5 := b8_val to
  obtain ⟨-, ⟨p1, p2⟩, p3, p4⟩ := hk
  refine ⟨?_, ?_, ?_, ?_⟩
  · show (b8 (l.length : Int)).toNat + 256 * (b8 ((l.length / 256 : Nat) : Int)).toNat + 65536 * (b8 ((l.length / 65536 : Nat) : Int)).toNat + 16777216 * (b8 ((l.length / 16777216 : Nat) : Int)).toNat = l.length
    omega
  · intro j hj
    obtain rfl | rfl | rfl | rfl : j = 0 ∨ j = 1 ∨ j = 2 ∨ j = 3 := by omega
    all_goals rfl
  · show ((b8 fr).toNat : Int) = fr
    omega
  · show ((b8 to).toNat : Int) = to
    omega
theorem hdE_of (r : List UInt8) (hk : sealOk lk fr to) (hl : l.length ≤ 2097152) : hdE (headL fr to l.length ++ r) = none := by
  obtain ⟨h1, h2, h3, h4⟩ := head_of r hk hl
  refine hdE_none.2 ⟨by rw [List.length_append, headL_len]; omega, h2, by rw [h3]; exact hk.2.1, by rw [h4]; exact hk.2.2, by omega⟩
theorem back_none (hk : sealOk lk fr to) (hl : l.length ≤ 2097152) : opE lk (sealL lk fr to l) = none := by
  have hlen := sealL_len hk hl
  have e := sealL_eq hk hl
  have e2 : sealL lk fr to l = headL fr to l.length ++ (l ++ hmac lk (headL fr to l.length ++ l)) := by rw [e, List.append_assoc]
  have hn : hdN (sealL lk fr to l) = l.length := by rw [e2]; exact (head_of _ hk hl).1
  refine opE_none.2 ⟨hk.1, by rw [e2]; exact hdE_of _ hk hl, by omega, ?_⟩
  rw [hn, e]
  have hx : (headL fr to l.length ++ l).length = 10 + l.length := by rw [List.length_append, headL_len]
  rw [← hx, List.drop_left, List.take_left]
theorem back_f (hk : sealOk lk fr to) (hl : l.length ≤ 2097152) : ((opF lk (sealL lk fr to l) : Nat) : Int) = fr := by
  unfold opF
  rw [if_pos (back_none hk hl), sealL_eq hk hl, List.append_assoc]
  exact (head_of _ hk hl).2.2.1
theorem back_t (hk : sealOk lk fr to) (hl : l.length ≤ 2097152) : ((opT lk (sealL lk fr to l) : Nat) : Int) = to := by
  unfold opT
  rw [if_pos (back_none hk hl), sealL_eq hk hl, List.append_assoc]
  exact (head_of _ hk hl).2.2.2
theorem back_b (hk : sealOk lk fr to) (hl : l.length ≤ 2097152) : opB lk (sealL lk fr to l) = l := by
  unfold opB
  rw [if_pos (back_none hk hl), sealL_eq hk hl, List.append_assoc, (head_of _ hk hl).1]
  have : (headL fr to l.length).length = 10 := rfl
  rw [← this, List.drop_left, List.take_left]
theorem hdN_take {b : List UInt8} {k : Nat} (h : 10 ≤ k) : hdN (b.take k) = hdN b := by
  have key : ∀ j, j < 10 → (b.take k).getD j 0 = b.getD j 0 := fun j hj => by
    rw [List.getD_eq_getElem?_getD, List.getD_eq_getElem?_getD, List.getElem?_take_of_lt (by omega)]
  unfold hdN
  rw [key 6 (by omega), key 7 (by omega), key 8 (by omega), key 9 (by omega)]
theorem cut_some {b : List UInt8} {k : Nat} (hb : opE lk b = none) (hk : k < b.length) : opE lk (b.take k) ≠ none := by
  intro h
  obtain ⟨h0, h1, h2, h3⟩ := opE_none.1 h
  obtain ⟨g0, g1, g2, g3⟩ := opE_none.1 hb
  obtain ⟨q1, -⟩ := hdE_none.1 h1
  rw [List.length_take] at h2 q1
  rw [hdN_take (by omega)] at h2
  omega
theorem more_iff {b m : List UInt8} (hb : opE lk b = none) : opE lk (b ++ m) = none ↔ m = [] := by
  constructor
  · intro h
    obtain ⟨h0, h1, h2, h3⟩ := opE_none.1 h
    obtain ⟨g0, g1, g2, g3⟩ := opE_none.1 hb
    obtain ⟨q1, -⟩ := hdE_none.1 g1
    have e : hdN (b ++ m) = hdN b := by
      have := hdN_take (b := b ++ m) (k := b.length) q1
      rw [List.take_left] at this
      exact this.symm
    rw [List.length_append] at h2
    exact List.eq_nil_of_length_eq_zero (by omega)
  · rintro rfl
    rw [List.append_nil]; exact hb
/-- A byte turned: if Open takes it, it stands ahead of the seal, and two rows of bytes have one seal. -/
theorem turn_law {b : List UInt8} {n : Nat} {x : UInt8} (hb : opE lk b = none) (hn : n < b.length) (hx : x ≠ b.getD n 0) (h : opE lk (b.set n x) = none) :
    n < b.length - 32 ∧ hmac lk (b.take (b.length - 32)) = hmac lk ((b.set n x).take (b.length - 32)) := by
  obtain ⟨h0, h1, h2, h3⟩ := opE_none.1 h
  obtain ⟨g0, g1, g2, g3⟩ := opE_none.1 hb
  rw [List.length_set] at h2
  have e : hdN (b.set n x) = hdN b := by omega
  rw [e] at h3
  have e2 : b.length - 32 = 10 + hdN b := by omega
  rw [e2]
  by_cases hlt : n < 10 + hdN b
  · refine ⟨hlt, ?_⟩
    rw [← g3, ← h3, List.drop_set_of_lt hlt]
  · exfalso
    have e3 : (b.set n x).take (10 + hdN b) = b.take (10 + hdN b) := by rw [List.take_set_of_le (by omega)]
    rw [e3, ← g3] at h3
    have h4 := congrArg (fun l : List UInt8 => l[n - (10 + hdN b)]?) h3
    simp only [List.getElem?_drop] at h4
    rw [show 10 + hdN b + (n - (10 + hdN b)) = n by omega, List.getElem?_set_self hn, List.getElem?_eq_getElem hn] at h4
    apply hx
    rw [List.getD_eq_getElem?_getD, List.getElem?_eq_getElem hn]
    exact Option.some.inj h4
end
end Go.Proofs.YtdcmbcjkdhdohaaDoor
