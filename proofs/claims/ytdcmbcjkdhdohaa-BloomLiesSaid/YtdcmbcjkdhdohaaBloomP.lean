/- The plain law of a digest: it has each hash that it was made of; so has what it is joined with; how many bits it has. -/
import Derived.Test.YtdcmbcjkdhdohaaBloom5
namespace Go.Proofs.Ytdcmbcjkdhdohaa
open Go Go.RowKit
set_option linter.unusedSimpArgs false
set_option linter.unusedVariables false

theorem bit_tb (c : UInt8) {k : Nat} (hk : k < 8) : ((c >>> UInt8.ofNat k) % 2 = 1) ↔ c.toNat.testBit k = true := by
  rw [← UInt8.toNat_inj, UInt8.toNat_mod, UInt8.toNat_shiftRight, UInt8.toNat_ofNat', Nat.testBit_eq_decide_div_mod_eq, decide_eq_true_eq, Nat.shiftRight_eq_div_pow]
  have e : k % 2 ^ 8 % 8 = k := by omega
  rw [e]; rfl
theorem bitP_tb {b : List UInt8} {i : Nat} : bitP b i ↔ (b.getD (i / 8) 0).toNat.testBit (i % 8) = true := bit_tb _ (Nat.mod_lt _ (by omega))
theorem getD_set {b : List UInt8} {m i : Nat} {x : UInt8} (hm : m < b.length) : (b.set m x).getD i 0 = if i = m then x else b.getD i 0 := by
  rw [List.getD_eq_getElem?_getD, List.getElem?_set]
  by_cases h : m = i
  · subst h; rw [if_pos rfl, if_pos hm, if_pos rfl]; rfl
  · rw [if_neg h, if_neg (fun e => h e.symm), List.getD_eq_getElem?_getD]
theorem bitP_set {b : List UInt8} {p i : Nat} (hp : p < 8 * b.length) : bitP (setBit b p) i ↔ i = p ∨ bitP b i := by
  rw [bitP_tb, bitP_tb, setBit, getD_set (by omega)]
  by_cases h : i / 8 = p / 8
  · rw [if_pos h, UInt8.toNat_or, Nat.testBit_or, UInt8.toNat_shiftLeft, UInt8.toNat_ofNat', Bool.or_eq_true, h]
    have e : p % 8 % 2 ^ 8 % 8 = p % 8 := by omega
    have e2 : (1 : UInt8).toNat = 1 := rfl
    have e3 : (1 <<< (p % 8)) % 2 ^ 8 = 2 ^ (p % 8) := by
      rw [Nat.one_shiftLeft]
      exact Nat.mod_eq_of_lt (Nat.pow_lt_pow_right (by omega) (Nat.mod_lt _ (by omega)))
    rw [e, e2, e3, Nat.testBit_two_pow, decide_eq_true_eq]
    constructor
    · rintro (h1 | h1)
      · exact .inr h1
      · exact .inl (by omega)
    · rintro (rfl | h1)
      · exact .inr rfl
      · exact .inl h1
  · rw [if_neg h]
    constructor
    · exact .inr
    · rintro (rfl | h1)
      · exact absurd rfl h
      · exact h1
theorem bitP_lt {b : List UInt8} {i : Nat} (h : bitP b i) : i < 8 * b.length := by
  rw [bitP_tb] at h
  by_cases hl : i / 8 < b.length
  · omega
  · rw [List.getD_eq_getElem?_getD, List.getElem?_eq_none (by omega)] at h
    simp at h
theorem bits_mono : ∀ {l : List Nat} {b : List UInt8}, (∀ p ∈ l, p < 8 * b.length) → ∀ i, bitP b i → bitP (l.foldl setBit b) i
  | [], _, _, _, h => h
  | p :: l, b, hl, i, h => by
    rw [List.foldl_cons]
    have e : (setBit b p).length = b.length := by simp [setBit]
    exact bits_mono (fun q hq => by rw [e]; exact hl q (by simp [hq])) i ((bitP_set (hl p (by simp))).2 (.inr h))
theorem bits_all : ∀ {l : List Nat} {b : List UInt8}, (∀ p ∈ l, p < 8 * b.length) → ∀ p ∈ l, bitP (l.foldl setBit b) p
  | [], _, _, _, h => absurd h (by simp)
  | p :: l, b, hl, q, hq => by
    rw [List.foldl_cons]
    have e : (setBit b p).length = b.length := by simp [setBit]
    have hl' : ∀ r ∈ l, r < 8 * (setBit b p).length := fun r hr => by rw [e]; exact hl r (by simp [hr])
    rcases List.mem_cons.1 hq with rfl | hq
    · exact bits_mono hl' q ((bitP_set (hl q (by simp))).2 (.inl rfl))
    · exact bits_all hl' q hq
theorem cnt_set {b : List UInt8} {p : Nat} (hp : p < 8 * b.length) : ∀ i, cntN (setBit b p) i ≤ cntN b i + (if p < i then 1 else 0)
  | 0 => by simp [cntN]
  | i + 1 => by
    have ih := cnt_set hp i
    simp only [cntN]
    by_cases h : i = p
    · subst h
      rw [if_neg (by omega)] at ih
      rw [if_pos (show i < i + 1 by omega)]
      split <;> split <;> omega
    · have : bitP (setBit b p) i ↔ bitP b i := by rw [bitP_set hp]; exact ⟨fun h1 => h1.resolve_left h, .inr⟩
      by_cases hb : bitP b i
      · rw [if_pos hb, if_pos (this.2 hb)]
        split at ih <;> split <;> omega
      · rw [if_neg hb, if_neg (fun h1 => hb (this.1 h1))]
        split at ih <;> split <;> omega
theorem cnt_sets : ∀ {l : List Nat} {b : List UInt8}, (∀ p ∈ l, p < 8 * b.length) → ∀ i, cntN (l.foldl setBit b) i ≤ cntN b i + l.length
  | [], _, _, _ => Nat.le_refl _
  | p :: l, b, hl, i => by
    rw [List.foldl_cons, List.length_cons]
    have e : (setBit b p).length = b.length := by simp [setBit]
    have h1 := cnt_sets (l := l) (b := setBit b p) (fun r hr => by rw [e]; exact hl r (by simp [hr])) i
    have h2 := cnt_set (hl p (by simp)) i
    split at h2 <;> omega
theorem cnt_zero (z : Nat) : ∀ i, cntN (List.replicate z 0) i = 0
  | 0 => rfl
  | i + 1 => by
    simp only [cntN]
    rw [cnt_zero z i, if_neg]
    rw [bitP_tb]
    have : (List.replicate z (0 : UInt8)).getD (i / 8) 0 = 0 := by
      rw [List.getD_eq_getElem?_getD, List.getElem?_replicate]
      split <;> rfl
    rw [this]; simp
theorem cnt_pos {b : List UInt8} {i : Nat} (h : bitP b i) : ∀ k, i < k → 1 ≤ cntN b k
  | 0, hk => absurd hk (by omega)
  | k + 1, hk => by
    simp only [cntN]
    by_cases e : i = k
    · subst e; rw [if_pos h]; omega
    · have := cnt_pos h k (by omega); omega
theorem plc_all {s : List UInt8} {z : Nat} (hz : 0 < z) : ∀ p ∈ plc s z, p < 8 * z := plc_lt hz
theorem adds_mono {x : UInt64} {z : Nat} (hz : 0 < z) : ∀ {hs : List (List UInt8)} {b : List UInt8}, b.length = z → ∀ i, bitP b i → bitP (hs.foldl (addH x z) b) i
  | [], _, _, _, h => h
  | h :: hs, b, hb, i, hi => by
    rw [List.foldl_cons]
    exact adds_mono hz (by rw [addH, setBits_length]; exact hb) i (bits_mono (by rw [hb]; exact plc_all hz) i hi)
theorem adds_all {x : UInt64} {z : Nat} (hz : 0 < z) : ∀ {hs : List (List UInt8)} {b : List UInt8}, b.length = z → ∀ h ∈ hs, ∀ p ∈ plc (dg x h) z, bitP (hs.foldl (addH x z) b) p
  | [], _, _, _, h => absurd h (by simp)
  | h :: hs, b, hb, q, hq => by
    rw [List.foldl_cons]
    have e : (addH x z b h).length = z := by rw [addH, setBits_length]; exact hb
    rcases List.mem_cons.1 hq with rfl | hq
    · intro p hp
      exact adds_mono hz e p (bits_all (by rw [hb]; exact plc_all hz) p hp)
    · exact adds_all hz e q hq
theorem cnt_adds {x : UInt64} {z : Nat} (hz : 0 < z) : ∀ {hs : List (List UInt8)} {b : List UInt8}, b.length = z → ∀ i, cntN (hs.foldl (addH x z) b) i ≤ cntN b i + 4 * hs.length
  | [], _, _, _ => by simp
  | h :: hs, b, hb, i => by
    rw [List.foldl_cons, List.length_cons]
    have e : (addH x z b h).length = z := by rw [addH, setBits_length]; exact hb
    have h1 := cnt_adds (x := x) hz (hs := hs) e i
    have h2 := cnt_sets (l := plc (dg x h) z) (b := b) (by rw [hb]; exact plc_all hz) i
    rw [plc_length] at h2
    have h3 : cntN (addH x z b h) i ≤ cntN b i + 4 := h2
    omega
section
variable {x : UInt64} {hs : List (List UInt8)} {b h : List UInt8}
theorem bsz_pos (n : Nat) : 0 < bsz n := by have := okS_le (okS_bsz n); omega
theorem bl_ok : okS ((bloomOf x hs).length : Int) := by rw [bloomOf_length]; exact okS_bsz _
theorem bl_has (hm : h ∈ hs) : hasP x (bloomOf x hs) h := by
  refine ⟨bl_ok, fun j hj => ?_⟩
  have hz := bsz_pos hs.length
  rw [bloomOf_length]
  refine adds_all hz (by rw [List.length_replicate]) h hm _ ?_
  rw [List.getD_eq_getElem?_getD, List.getElem?_eq_getElem (by rw [plc_length]; omega)]
  exact List.getElem_mem _
theorem bl_hasE : hasE (bloomOf x hs) = 0 := by rw [hasE, if_pos bl_ok]
theorem bl_cnt : cntN (bloomOf x hs) (8 * (bloomOf x hs).length) ≤ 4 * hs.length := by
  have := cnt_adds (x := x) (bsz_pos hs.length) (hs := hs) (b := List.replicate (bsz hs.length) 0) (by rw [List.length_replicate]) (8 * (bloomOf x hs).length)
  rw [cnt_zero] at this
  show cntN (bof x hs (bsz hs.length)) _ ≤ _
  unfold bof
  omega
theorem bl_one (hm : h ∈ hs) : 1 ≤ cntN (bloomOf x hs) (8 * (bloomOf x hs).length) := by
  have h1 := (bl_has (x := x) hm).2 0 (by omega)
  exact cnt_pos h1 _ (bitP_lt h1)
theorem joinE_zero {a b : List UInt8} (ha : okS (a.length : Int)) : joinE a b = 0 ↔ b.length = a.length := by
  unfold joinE
  constructor
  · intro h
    split at h
    · rename_i h1; exact h1.2.symm
    · cases h
  · intro h
    rw [if_pos ⟨ha, h.symm⟩]
theorem joinE_comm (a b : List UInt8) : joinE a b = joinE b a := by
  unfold joinE
  by_cases h : a.length = b.length
  · rw [h]
  · rw [if_neg (fun q => h q.2), if_neg (fun q => h q.2.symm)]
theorem zip_bit {a b : List UInt8} (he : a.length = b.length) {i : Nat} : bitP (List.zipWith (· ||| ·) a b) i ↔ bitP a i ∨ bitP b i := by
  rw [bitP_tb, bitP_tb, bitP_tb]
  by_cases hl : i / 8 < a.length
  · have e : (List.zipWith (· ||| ·) a b).getD (i / 8) 0 = a.getD (i / 8) 0 ||| b.getD (i / 8) 0 := by
      rw [List.getD_eq_getElem?_getD, List.getElem?_zipWith, List.getElem?_eq_getElem hl, List.getElem?_eq_getElem (by omega), List.getD_eq_getElem?_getD, List.getElem?_eq_getElem hl, List.getD_eq_getElem?_getD, List.getElem?_eq_getElem (by omega)]
      rfl
    rw [e, UInt8.toNat_or, Nat.testBit_or, Bool.or_eq_true]
  · have e1 : (List.zipWith (· ||| ·) a b).getD (i / 8) 0 = 0 := by rw [List.getD_eq_getElem?_getD, List.getElem?_eq_none (by rw [List.length_zipWith]; omega)]; rfl
    have e2 : a.getD (i / 8) 0 = 0 := by rw [List.getD_eq_getElem?_getD, List.getElem?_eq_none (by omega)]; rfl
    have e3 : b.getD (i / 8) 0 = 0 := by rw [List.getD_eq_getElem?_getD, List.getElem?_eq_none (by omega)]; rfl
    rw [e1, e2, e3]; simp
theorem jn_has1 {a : List UInt8} (hj : joinE a b = 0) (h1 : hasP x a h) : hasP x (joinL a b) h ∧ hasE (joinL a b) = 0 := by
  have he := (joinE_zero h1.1).1 hj
  have hl : joinL a b = List.zipWith (· ||| ·) a b := by rw [joinL, if_pos ⟨h1.1, he.symm⟩]
  have hz : (List.zipWith (· ||| ·) a b).length = a.length := by rw [List.length_zipWith]; omega
  rw [hl]
  refine ⟨⟨by rw [hz]; exact h1.1, fun j hj => ?_⟩, by rw [hasE, hz, if_pos h1.1]⟩
  rw [hz]
  exact (zip_bit he.symm).2 (.inl (h1.2 j hj))
theorem jn_has2 {a : List UInt8} (hj : joinE a b = 0) (h1 : hasP x a h) : hasP x (joinL b a) h ∧ hasE (joinL b a) = 0 := by
  have he := (joinE_zero h1.1).1 hj
  have hl : joinL b a = List.zipWith (· ||| ·) b a := by rw [joinL, if_pos ⟨by rw [he]; exact h1.1, he⟩]
  have hz : (List.zipWith (· ||| ·) b a).length = a.length := by rw [List.length_zipWith]; omega
  rw [hl]
  refine ⟨⟨by rw [hz]; exact h1.1, fun j hj => ?_⟩, by rw [hasE, hz, if_pos h1.1]⟩
  rw [hz]
  exact (zip_bit he).2 (.inr (h1.2 j hj))
end
end Go.Proofs.Ytdcmbcjkdhdohaa
