/- The plain law of roots: unlike cells have unlike roots, or two unlike rows of bytes have one hash. -/
import Derived.Test.YtdcmbcjkdhdohaaRoots5
namespace Go.Proofs.Ytdcmbcjkdhdohaa
open Go Go.RowKit
set_option linter.unusedSimpArgs false
set_option linter.unusedVariables false
/-- A number's form ends where it ends. -/
theorem numN_inj : ∀ (m x y : Nat) (r s : List UInt8), x ≤ m → numN x ++ r = numN y ++ s → x = y ∧ r = s := by
  intro m
  induction m using Nat.strongRecOn with
  | _ m ih =>
    intro x y r s hx h
    by_cases h1 : x < 128
    · rw [numN_small h1] at h
      by_cases h2 : y < 128
      · rw [numN_small h2] at h
        injection h with h3 h4
        refine ⟨?_, h4⟩
        have := congrArg UInt8.toNat h3
        rw [UInt8.toNat_ofNat', UInt8.toNat_ofNat'] at this
        omega
      · rw [numN_big h2] at h
        injection h with h3 h4
        have := congrArg UInt8.toNat h3
        rw [UInt8.toNat_ofNat', UInt8.toNat_ofNat'] at this
        omega
    · rw [numN_big h1] at h
      by_cases h2 : y < 128
      · rw [numN_small h2] at h
        injection h with h3 h4
        have := congrArg UInt8.toNat h3
        rw [UInt8.toNat_ofNat', UInt8.toNat_ofNat'] at this
        omega
      · rw [numN_big h2] at h
        injection h with h3 h4
        have := congrArg UInt8.toNat h3
        rw [UInt8.toNat_ofNat', UInt8.toNat_ofNat'] at this
        obtain ⟨q1, q2⟩ := ih (x / 128) (by omega) (x / 128) (y / 128) r s (Nat.le_refl _) h4
        exact ⟨by omega, q2⟩
theorem num_app {x y : Nat} {r s : List UInt8} (h : numN x ++ r = numN y ++ s) : x = y ∧ r = s := numN_inj x x y r s (Nat.le_refl _) h
theorem u64_may {k k2 : Int} (h : kMay k) (h2 : kMay k2) (e : (u64 k).toNat = (u64 k2).toNat) : k = k2 := by
  have q1 := u64_val k
  have q2 := u64_val k2
  unfold kMay at h h2
  omega
theorem leafB_inj {a b : Ce} (ha : kMay a.k) (hb : kMay b.k) (h : leafB a = leafB b) : a = b := by
  unfold leafB at h
  injection h with _ h
  rw [List.append_assoc, List.append_assoc, List.append_assoc, List.append_assoc] at h
  obtain ⟨h1, h⟩ := num_app h
  obtain ⟨h2, h⟩ := num_app h
  obtain ⟨h3, h⟩ := List.append_inj h h2
  obtain ⟨h4, h5⟩ := num_app h
  obtain ⟨ak, akey, al⟩ := a
  obtain ⟨bk, bkey, bl⟩ := b
  simp only at h3 h5 ha hb h1
  rw [u64_may ha hb h1, h3, h5]
theorem l8_inj {n m : Nat} (hn : n < 18446744073709551616) (hm : m < 18446744073709551616) (h : l8 n = l8 m) : n = m := by
  have key : ∀ i, i < 8 → (n / 2 ^ (8 * i)) % 256 = (m / 2 ^ (8 * i)) % 256 := by
    intro i hi
    have h1 := congrArg (fun l : List UInt8 => l[i]?) h
    simp only [l8, List.getElem?_map, List.getElem?_range hi, Option.map_some, Option.some.injEq] at h1
    have h2 := congrArg UInt8.toNat h1
    have q1 := b8_val ((n / 2 ^ (8 * i) : Nat) : Int)
    have q2 := b8_val ((m / 2 ^ (8 * i) : Nat) : Int)
    omega
  have k0 := key 0 (by omega)
  have k1 := key 1 (by omega)
  have k2 := key 2 (by omega)
  have k3 := key 3 (by omega)
  have k4 := key 4 (by omega)
  have k5 := key 5 (by omega)
  have k6 := key 6 (by omega)
  have k7 := key 7 (by omega)
  simp only [Nat.mul_zero, Nat.pow_zero, Nat.div_one, Nat.mul_one, Nat.reduceMul, Nat.reducePow] at k0 k1 k2 k3 k4 k5 k6 k7
  omega
theorem topB_inj {n m : Nat} {t u : List UInt8} (hn : n < 18446744073709551616) (hm : m < 18446744073709551616) (h : topB n t = topB m u) : n = m ∧ t = u := by
  unfold topB at h
  injection h with _ h
  obtain ⟨h1, h2⟩ := List.append_inj h (by simp)
  exact ⟨l8_inj hn hm h1, h2⟩
theorem innerB_inj {a b c d : List UInt8} (hl : a.length = c.length) (h : innerB a b = innerB c d) : a = c ∧ b = d := by
  unfold innerB at h
  injection h with _ h
  exact List.append_inj h hl
/-- No two unlike rows have one hash. -/
def Inj (R : List (List UInt8)) : Prop := ∀ x ∈ R, ∀ y ∈ R, sha x = sha y → x = y
theorem inj_or {R : List (List UInt8)} (h : ¬ twiceP R) : Inj R := by
  intro x hx y hy e
  apply Classical.byContradiction
  intro hne
  obtain ⟨i, hi⟩ := List.getElem?_of_mem hx
  obtain ⟨j, hj⟩ := List.getElem?_of_mem hy
  have li := (List.getElem?_eq_some_iff.1 hi).1
  have lj := (List.getElem?_eq_some_iff.1 hj).1
  have gi : R.getD i [] = x := by rw [List.getD_eq_getElem?_getD, hi]; rfl
  have gj : R.getD j [] = y := by rw [List.getD_eq_getElem?_getD, hj]; rfl
  rcases Nat.lt_trichotomy i j with h1 | h1 | h1
  · exact h ⟨j, i, h1, lj, by rw [gi, gj]; exact e.symm, by rw [gi, gj]; exact fun q => hne q.symm⟩
  · subst h1; exact hne (gi.symm.trans gj)
  · exact h ⟨i, j, h1, li, by rw [gi, gj]; exact e, by rw [gi, gj]; exact hne⟩
theorem tree_inj {R : List (List UInt8)} (hR : Inj R) : ∀ (m : Nat) (a b : List Ce), a.length ≤ m → 0 < a.length → a.length = b.length → kinds a → kinds b → (∀ x ∈ rowsT a, x ∈ R) → (∀ x ∈ rowsT b, x ∈ R) → treeH a = treeH b → a = b
  | 0, a, b, h1, h2, _, _, _, _, _, _ => by omega
  | m + 1, a, b, h1, h2, hl, ka, kb, ra, rb, h => by
    by_cases h3 : a.length = 1
    · obtain ⟨c, rfl⟩ := List.length_eq_one_iff.1 h3
      obtain ⟨d, rfl⟩ := List.length_eq_one_iff.1 (hl ▸ h3)
      rw [treeH_one, treeH_one] at h
      have := hR _ (ra _ (by rw [rowsT_one]; simp)) _ (rb _ (by rw [rowsT_one]; simp)) h
      rw [leafB_inj (ka c (by simp)) (kb d (by simp)) this]
    · have g1 : 1 < a.length := by omega
      have g2 : 1 < b.length := by omega
      have q1 := half_lt g1
      have q2 := half_pos a.length
      rw [treeH_more g1, treeH_more g2] at h
      have e := hR _ (ra _ (by rw [rowsT_more g1]; simp)) _ (rb _ (by rw [rowsT_more g2]; simp)) h
      obtain ⟨e1, e2⟩ := innerB_inj (by rw [treeH_len, treeH_len]) e
      have t1 := tree_inj hR m (a.take (half a.length)) (b.take (half b.length)) (by rw [List.length_take]; omega) (by rw [List.length_take]; omega) (by rw [List.length_take, List.length_take, hl]) (fun c hc => ka c (List.mem_of_mem_take hc)) (fun c hc => kb c (List.mem_of_mem_take hc))
        (fun x hx => ra x (by rw [rowsT_more g1]; simp [hx])) (fun x hx => rb x (by rw [rowsT_more g2]; simp [hx])) e1
      have t2 := tree_inj hR m (a.drop (half a.length)) (b.drop (half b.length)) (by rw [List.length_drop]; omega) (by rw [List.length_drop]; omega) (by rw [List.length_drop, List.length_drop, hl]) (fun c hc => ka c (List.mem_of_mem_drop hc)) (fun c hc => kb c (List.mem_of_mem_drop hc))
        (fun x hx => ra x (by rw [rowsT_more g1]; simp [hx])) (fun x hx => rb x (by rw [rowsT_more g2]; simp [hx])) e2
      rw [← List.take_append_drop (half a.length) a, t1, t2, List.take_append_drop]
theorem root_inj {R : List (List UInt8)} (hR : Inj R) {a b : List Ce} (ha : a.length < 18446744073709551616) (hb : b.length < 18446744073709551616) (ka : kinds a) (kb : kinds b) (ra : ∀ x ∈ rowsR a, x ∈ R) (rb : ∀ x ∈ rowsR b, x ∈ R) (h : rootH a = rootH b) : a = b := by
  have top : ∀ l : List Ce, rootH l = sha (topB l.length (if l.length = 0 then [] else treeH l)) ∧ topB l.length (if l.length = 0 then [] else treeH l) ∈ rowsR l := by
    intro l
    unfold rootH rowsR
    by_cases h0 : l.length = 0
    · rw [if_pos h0, if_pos h0, if_pos h0, h0]; exact ⟨rfl, by simp⟩
    · rw [if_neg h0, if_neg h0, if_neg h0]; exact ⟨rfl, by simp⟩
  rw [(top a).1, (top b).1] at h
  have e := hR _ (ra _ (top a).2) _ (rb _ (top b).2) h
  obtain ⟨e1, e2⟩ := topB_inj ha hb e
  by_cases h0 : a.length = 0
  · have h1 : b.length = 0 := by omega
    rw [List.eq_nil_of_length_eq_zero h0, List.eq_nil_of_length_eq_zero h1]
  · rw [if_neg h0, if_neg (by omega)] at e2
    refine tree_inj hR a.length a b (Nat.le_refl _) (by omega) e1 ka kb (fun x hx => ra x ?_) (fun x hx => rb x ?_) e2
    · unfold rowsR; rw [if_neg h0]; simp [hx]
    · unfold rowsR; rw [if_neg (by omega)]; simp [hx]
theorem wrong_zero {l : List Ce} (h : wrong l = 0) : kinds l ∧ ordered l := by
  unfold wrong at h
  split at h
  · split at h
    · exact ⟨by assumption, by assumption⟩
    · cases h
  · cases h
theorem unlike_law {a b : List Ce} (wa : wrong a = 0) (wb : wrong b = 0) (ha : a.length < 18446744073709551616) (hb : b.length < 18446744073709551616) (h : ¬ (a = b ↔ rootA a = rootA b)) : twiceP (rowsR a ++ rowsR b) := by
  apply Classical.byContradiction
  intro hn
  have hR := inj_or hn
  apply h
  constructor
  · rintro rfl; rfl
  · intro e
    rw [rootA_yes wa, rootA_yes wb] at e
    exact root_inj hR ha hb (wrong_zero wa).1 (wrong_zero wb).1 (fun x hx => by simp [hx]) (fun x hx => by simp [hx]) e
/-! ### How long the rows are -/
theorem leafB_le {c : Ce} (h : small c) : (leafB c).length ≤ 141836999983136 := by
  have h1 := num_le (u64 c.k)
  have h2 := numS_le h.1
  have h3 := numS_le h.2
  unfold small at h
  unfold leafB
  simp only [List.length_cons, List.length_append]; omega
theorem rowsT_small : ∀ (m : Nat) (l : List Ce), l.length ≤ m → (∀ c ∈ l, small c) → ∀ x ∈ rowsT l, x.length ≤ 141836999983136
  | 0, l, h, _, x, hx => by
    obtain rfl := List.eq_nil_of_length_eq_zero (Nat.le_zero.1 h)
    rw [rowsT] at hx; simp at hx
  | m + 1, l, h, hs, x, hx => by
    by_cases h1 : 1 < l.length
    · have h2 := half_lt h1
      have h3 := half_pos l.length
      rw [rowsT_more h1] at hx
      simp only [List.mem_append, List.mem_singleton] at hx
      rcases hx with (hx | hx) | rfl
      · exact rowsT_small m _ (by rw [List.length_take]; omega) (fun c hc => hs c (List.mem_of_mem_take hc)) x hx
      · exact rowsT_small m _ (by rw [List.length_drop]; omega) (fun c hc => hs c (List.mem_of_mem_drop hc)) x hx
      · unfold innerB
        rw [List.length_cons, List.length_append, treeH_len, treeH_len]; omega
    · by_cases h0 : l.length = 0
      · obtain rfl := List.eq_nil_of_length_eq_zero h0
        rw [rowsT] at hx; simp at hx
      · obtain ⟨c, rfl⟩ := List.length_eq_one_iff.1 (show l.length = 1 by omega)
        rw [rowsT_one] at hx
        rw [List.mem_singleton.1 hx]; exact leafB_le (hs c (by simp))
theorem rowsR_small {l : List Ce} (hs : ∀ c ∈ l, small c) : ∀ x ∈ rowsR l, x.length ≤ 190000000000000 := by
  intro x hx
  unfold rowsR at hx
  split at hx
  · rw [List.mem_singleton.1 hx]; unfold topB; simp
  · simp only [List.mem_append, List.mem_singleton] at hx
    rcases hx with hx | rfl
    · have := rowsT_small l.length l (Nat.le_refl _) hs x hx; omega
    · unfold topB; rw [List.length_cons, List.length_append, treeH_len, l8_len]; omega
theorem csr_small {X : List Nat} {w : World} {v : Value} {cs : List Cl} (h : CsR X w v cs) : ∀ c ∈ cs.map (·.c), small c := by
  intro c hc
  obtain ⟨d, hd, rfl⟩ := List.mem_map.1 hc
  exact (h.each d hd).2
theorem two_small {X Y : List Nat} {w w2 : World} {v v2 : Value} {cs ds : List Cl} (h : CsR X w v cs) (h2 : CsR Y w2 v2 ds) : ∀ x ∈ rowsR (cs.map (·.c)) ++ rowsR (ds.map (·.c)), x.length ≤ 190000000000000 := by
  intro x hx
  rcases List.mem_append.1 hx with hx | hx
  · exact rowsR_small (csr_small h) x hx
  · exact rowsR_small (csr_small h2) x hx
/-! ### Lists of cells compared -/
theorem sameC_iff {a b : Ce} : sameC a b ↔ a = b := by
  obtain ⟨ak, akey, al⟩ := a
  obtain ⟨bk, bkey, bl⟩ := b
  unfold sameC
  simp
theorem pl_eq {cs ds : List Cl} : cs.map (·.c) = ds.map (·.c) ↔ cs.length = ds.length ∧ ∀ j, j < cs.length → sameC (cs.getD j c0).c (ds.getD j c0).c := by
  constructor
  · intro h
    have hl : cs.length = ds.length := by simpa using congrArg List.length h
    refine ⟨hl, fun j hj => ?_⟩
    have := congrArg (fun l : List Ce => l[j]?) h
    simp only [pl_get hj, pl_get (show j < ds.length by omega)] at this
    exact sameC_iff.2 (Option.some.inj this)
  · rintro ⟨hl, h⟩
    apply List.ext_getElem?
    intro j
    by_cases hj : j < cs.length
    · rw [pl_get hj, pl_get (by omega), sameC_iff.1 (h j hj)]
    · rw [List.getElem?_eq_none (by simp; omega), List.getElem?_eq_none (by simp; omega)]
section
variable {P : Program} {n : Nat} {f : Nat → Value} {ty t t2 : TypeId} {w : World} {x y : Operand}
theorem y_neqBP {p : Bool} {q : Prop} [Decidable q] (hx : ev n f x = .bool p) (hy : ev n f y = .bool (decide q)) (hu : P.underlying t = some .bool) : Y P n f (.binOp .neq t x y t2) ty w (.bool (decide (¬ (p = true ↔ q)))) w := by
  have h := y_neqB (P := P) (t := t) (t2 := t2) (ty := ty) (w := w) hx hy hu
  have e : (p != decide q) = decide (¬ (p = true ↔ q)) := by
    cases p <;> by_cases hq : q <;> simp [hq]
  rwa [e] at h
end
end Go.Proofs.Ytdcmbcjkdhdohaa
