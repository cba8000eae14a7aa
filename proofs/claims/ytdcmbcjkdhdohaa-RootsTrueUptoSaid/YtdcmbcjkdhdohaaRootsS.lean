/- A witness that is taken is the one that Find tells, or two unlike rows have one hash. -/
import Derived.Test.YtdcmbcjkdhdohaaRootsC
import Derived.Test.YtdcmbcjkdhdohaaRootsP
namespace Go.Proofs.Ytdcmbcjkdhdohaa
open Go Go.RowKit
set_option linter.unusedSimpArgs false
set_option linter.unusedVariables false
theorem path_split {path : List (List UInt8)} (h : ¬ path.length = 0) : path = restP path ++ [lastP path] := by
  unfold restP lastP
  rw [List.getD_eq_getElem?_getD, List.getElem?_eq_getElem (by omega)]
  have h1 : path.take (path.length - 1 + 1) = path.take (path.length - 1) ++ [path[path.length - 1]] := by rw [List.take_add_one, List.getElem?_eq_getElem (by omega)]; rfl
  rw [show path.length - 1 + 1 = path.length by omega, List.take_length] at h1
  exact h1
theorem climb_sound {R : List (List UInt8)} (hR : Inj R) {c : Ce} (hc : kMay c.k) (hcR : leafB c ∈ R) : ∀ (m : Nat) (l : List Ce) (i : Nat) (path : List (List UInt8)), l.length ≤ m → i < l.length → kinds l → (∀ x ∈ rowsT l, x ∈ R) →
    (∀ x ∈ climbR l.length i (leafH c) path, x ∈ R) → climbH l.length i (leafH c) path = some (treeH l) → c = l.getD i ce0 ∧ path = pathOf l i
  | 0, l, i, path, h1, h2, _, _, _, _ => by omega
  | m + 1, l, i, path, h1, h2, hk, rl, rc, h => by
    by_cases hl : l.length = 1
    · by_cases hp : path.length = 0
      · rw [ch_one hl hp] at h
        obtain ⟨d, rfl⟩ := List.length_eq_one_iff.1 hl
        have h3 := Option.some.inj h
        rw [treeH_one] at h3
        have h4 := hR _ hcR _ (rl _ (by rw [rowsT_one]; simp)) h3
        have h5 := leafB_inj hc (hk d (by simp)) h4
        have h6 : i = 0 := by simp at h2; exact h2
        subst h6
        exact ⟨h5, by rw [path_one (by simp)]; exact List.eq_nil_of_length_eq_zero hp⟩
      · rw [ch_one' hl hp] at h; cases h
    · have g1 : 1 < l.length := by omega
      have a1 := half_lt g1
      have a2 := half_pos l.length
      by_cases hp : path.length = 0
      · rw [ch_nil hl hp] at h; cases h
      · have hs := path_split hp
        by_cases hi : i < half l.length
        · rw [ch_l hl hp hi] at h
          obtain ⟨x, hx, h3⟩ := Option.map_eq_some_iff.1 h
          have hxl := climb_len _ _ _ _ _ x (Nat.le_refl _) (leafH_len c) hx
          rw [cr_l hl hp hi hx] at rc
          rw [treeH_more g1] at h3
          have h4 := hR _ (rc _ (by simp)) _ (rl _ (by rw [rowsT_more g1]; simp)) h3
          obtain ⟨e1, e2⟩ := innerB_inj (by rw [hxl, treeH_len]) h4
          have hlt : (l.take (half l.length)).length = half l.length := by rw [List.length_take]; omega
          have ih := climb_sound hR hc hcR m (l.take (half l.length)) i (restP path) (by omega) (by omega) (fun c hc => hk c (List.mem_of_mem_take hc)) (fun x hx => rl x (by rw [rowsT_more g1]; simp [hx])) (by rw [hlt]; exact fun x hx => rc x (by simp [hx])) (by rw [hlt, hx, e1])
          refine ⟨?_, ?_⟩
          · rw [ih.1, List.getD_eq_getElem?_getD, List.getD_eq_getElem?_getD, List.getElem?_take_of_lt hi]
          · rw [path_l (by omega) hi, ← ih.2, ← e2]; exact hs
        · rw [ch_r hl hp hi] at h
          obtain ⟨x, hx, h3⟩ := Option.map_eq_some_iff.1 h
          have hxl := climb_len _ _ _ _ _ x (Nat.le_refl _) (leafH_len c) hx
          rw [cr_r hl hp hi hx] at rc
          rw [treeH_more g1] at h3
          have h4 := hR _ (rc _ (by simp)) _ (rl _ (by rw [rowsT_more g1]; simp)) h3
          have h4' : innerB (lastP path) x = innerB (treeH (l.take (half l.length))) (treeH (l.drop (half l.length))) := h4
          have hln : (1 : UInt8) :: (lastP path ++ x) = 1 :: (treeH (l.take (half l.length)) ++ treeH (l.drop (half l.length))) := h4'
          have hlen := congrArg List.length (List.cons.inj hln).2
          rw [List.length_append, List.length_append, treeH_len, treeH_len, hxl] at hlen
          obtain ⟨e1, e2⟩ := innerB_inj (by rw [treeH_len]; omega) h4'
          have hld : (l.drop (half l.length)).length = l.length - half l.length := by rw [List.length_drop]
          have ih := climb_sound hR hc hcR m (l.drop (half l.length)) (i - half l.length) (restP path) (by omega) (by omega) (fun c hc => hk c (List.mem_of_mem_drop hc)) (fun x hx => rl x (by rw [rowsT_more g1]; simp [hx])) (by rw [hld]; exact fun x hx => rc x (by simp [hx])) (by rw [hld, hx, e2])
          refine ⟨?_, ?_⟩
          · rw [ih.1, List.getD_eq_getElem?_getD, List.getD_eq_getElem?_getD, List.getElem?_drop, show half l.length + (i - half l.length) = i by omega]
          · rw [path_r (by omega) hi, ← ih.2, ← e1]; exact hs
theorem leaf_sound {R : List (List UInt8)} (hR : Inj R) {l : List Ce} (hw : wrong l = 0) (hl : l.length < 18446744073709551616) (rl : ∀ x ∈ rowsR l, x ∈ R) {n : Int} {f : Le} (hn : n < 18446744073709551616) (hs : stands (rootA l) n f) (rf : ∀ x ∈ leafR n f, x ∈ R) :
    n = (l.length : Int) ∧ ∃ i, i < l.length ∧ f = leafAt l i := by
  obtain ⟨h1, h2, h3, t, h4, h5⟩ := hs
  have hr := leafR_some (f := f) ⟨h1, h2, h3⟩ h4
  rw [hr] at rf
  rw [rootA_yes hw] at h5
  have htop : rootH l = sha (topB l.length (if l.length = 0 then [] else treeH l)) ∧ topB l.length (if l.length = 0 then [] else treeH l) ∈ rowsR l := by
    unfold rootH rowsR
    by_cases h0 : l.length = 0
    · rw [if_pos h0, if_pos h0, if_pos h0, h0]; exact ⟨rfl, by simp⟩
    · rw [if_neg h0, if_neg h0, if_neg h0]; exact ⟨rfl, by simp⟩
  rw [htop.1] at h5
  have e := hR _ (rf _ (by simp)) _ (rl _ htop.2) h5
  obtain ⟨e1, e2⟩ := topB_inj (by omega) hl e
  have h0 : ¬ l.length = 0 := by omega
  rw [if_neg h0] at e2
  rw [e1, e2] at h4
  rw [e1] at rf
  obtain ⟨q1, q2⟩ := climb_sound hR h1 (rf _ (by simp)) _ l f.n.toNat f.path (Nat.le_refl _) (by omega) (wrong_zero hw).1 (fun x hx => rl x (by unfold rowsR; rw [if_neg h0]; simp [hx])) (fun x hx => rf x (by simp [hx])) h4
  refine ⟨by omega, f.n.toNat, by omega, ?_⟩
  obtain ⟨fn, fc, fp⟩ := f
  simp only at q1 q2 h2
  unfold leafAt
  rw [← q2, Int.toNat_of_nonneg h2]
  congr 1
theorem check_sound {cs : List Cl} {kind : Int} {key : List UInt8} {n : Int} {ls : List Le} (hk : kMay kind) (hw : wrong (PL cs) = 0) (hl : cs.length < 18446744073709551616) (hn : n < 18446744073709551616)
    (hc : (checkA (rootA (PL cs)) kind key n ls).1 = 0) : twiceP (rowsR (PL cs) ++ rowsW n ls) ∨ (n = (cs.length : Int) ∧ ∃ p, IsP kind key (PL cs) p ∧ ls = leavesAt kind key (PL cs) p) := by
  by_cases ht : twiceP (rowsR (PL cs) ++ rowsW n ls)
  · exact .inl ht
  refine .inr ?_
  have hR := inj_or ht
  have hll : (PL cs).length = cs.length := List.length_map _
  have rl : ∀ x ∈ rowsR (PL cs), x ∈ rowsR (PL cs) ++ rowsW n ls := fun x hx => by simp [hx]
  have rw_ : ∀ x ∈ rowsW n ls, x ∈ rowsR (PL cs) ++ rowsW n ls := fun x hx => by simp [hx]
  unfold checkA at hc
  rw [if_neg (not_not_intro hk)] at hc
  by_cases h0 : n = 0 ∧ ls.length = 0
  · rw [if_pos h0] at hc
    by_cases htp : topH 0 [] = rootA (PL cs)
    · rw [rootA_yes hw] at htp
      have hcs : cs.length = 0 := by
        apply Classical.byContradiction
        intro hne
        have hrw : topB 0 [] ∈ rowsW n ls := by unfold rowsW; rw [if_pos h0.1]; simp
        have hrr : topB (PL cs).length (treeH (PL cs)) ∈ rowsR (PL cs) := by unfold rowsR; rw [if_neg (by omega)]; simp
        unfold rootH at htp
        rw [if_neg (by omega)] at htp
        have := (topB_inj (by omega) (by omega) (hR _ (rw_ _ hrw) _ (rl _ hrr) htp)).1
        omega
      refine ⟨by omega, 0, isP_mk (by omega) (fun j hj => by omega) (fun h => by omega), ?_⟩
      rw [List.eq_nil_of_length_eq_zero h0.2]
      unfold leavesAt
      rw [if_neg (fun h => by have := h.1; omega), if_neg (by omega), if_neg (by omega)]; rfl
    · rw [if_neg htp] at hc; simp at hc
  · rw [if_neg h0] at hc
    by_cases h1 : 0 < n ∧ (ls.length = 1 ∨ ls.length = 2) ∧ ∀ f ∈ ls, stands (rootA (PL cs)) n f
    · rw [if_pos h1] at hc
      obtain ⟨hn0, hlen, hst⟩ := h1
      have hrw : ∀ f ∈ ls, ∀ x ∈ leafR n f, x ∈ rowsR (PL cs) ++ rowsW n ls := fun f hf x hx => rw_ x (by unfold rowsW; rw [if_neg (by omega)]; exact List.mem_flatMap.2 ⟨f, hf, hx⟩)
      have hf : ∀ f ∈ ls, n = ((PL cs).length : Int) ∧ ∃ i, i < (PL cs).length ∧ f = leafAt (PL cs) i := fun f hf => leaf_sound hR hw (by omega) rl hn (hst f hf) (hrw f hf)
      have hs : saysA kind key n ls = 1 ∨ saysA kind key n ls = 0 := by
        by_cases s1 : saysA kind key n ls = 1
        · exact .inl s1
        · rw [if_neg s1] at hc
          by_cases s0 : saysA kind key n ls = 0
          · exact .inr s0
          · rw [if_neg s0] at hc; simp at hc
      rcases hlen with hlen | hlen
      · obtain ⟨f, rfl⟩ := List.length_eq_one_iff.1 hlen
        obtain ⟨en, i, hi, rfl⟩ := hf f (by simp)
        rw [hll] at en hi
        refine ⟨en, ?_⟩
        have hP : plcC (leafAt (PL cs) i).c.k (leafAt (PL cs) i).c.key kind key = plcI kind key cs i := by unfold leafAt; rw [pl_getD]
        simp only [saysA] at hs
        rw [hP] at hs
        have hfn : (leafAt (PL cs) i).n = (i : Int) := rfl
        rw [hfn] at hs
        by_cases z : plcI kind key cs i = 0
        · refine ⟨i, isP_mk (by omega) (fun j hj => ?_) (fun _ => by omega), (at_hit hi z).symm⟩
          have q := ord_lt hw (i - j - 1) j (by omega)
          rw [show j + (i - j - 1) + 1 = i by omega, (plc_zero.1 z).1, (plc_zero.1 z).2] at q
          exact plc_neg.2 q
        · rw [if_neg z] at hs
          by_cases z2 : (0 < plcI kind key cs i ∧ (i : Int) = 0) ∨ (plcI kind key cs i < 0 ∧ (i : Int) = n - 1)
          · rcases z2 with ⟨z2, z3⟩ | ⟨z2, z3⟩
            · obtain rfl : i = 0 := by omega
              refine ⟨0, isP_mk (by omega) (fun j hj => by omega) (fun _ => by omega), ?_⟩
              rw [at_pos hi z2, mid_no (by omega)]; rfl
            · refine ⟨cs.length, isP_mk (Nat.le_refl _) (fun j hj => srt hw (j := i) (by omega) hi z2) (fun h => absurd h (Nat.lt_irrefl _)), ?_⟩
              rw [at_end, mid_yes ⟨by omega, .inl rfl⟩, show cs.length - 1 = i by omega]
          · rw [if_neg z2] at hs; simp at hs
      · obtain ⟨f, g, rfl⟩ : ∃ f g, ls = [f, g] := by
          match ls, hlen with
          | [f, g], _ => exact ⟨f, g, rfl⟩
        obtain ⟨en, i, hi, rfl⟩ := hf f (by simp)
        obtain ⟨-, j, hj, rfl⟩ := hf g (by simp)
        rw [hll] at en hi hj
        refine ⟨en, ?_⟩
        have hPi : plcC (leafAt (PL cs) i).c.k (leafAt (PL cs) i).c.key kind key = plcI kind key cs i := by unfold leafAt; rw [pl_getD]
        have hPj : plcC (leafAt (PL cs) j).c.k (leafAt (PL cs) j).c.key kind key = plcI kind key cs j := by unfold leafAt; rw [pl_getD]
        simp only [saysA] at hs
        rw [hPi, hPj] at hs
        have hfi : (leafAt (PL cs) i).n = (i : Int) := rfl
        have hfj : (leafAt (PL cs) j).n = (j : Int) := rfl
        rw [hfi, hfj] at hs
        by_cases z : plcI kind key cs i < 0 ∧ 0 < plcI kind key cs j ∧ (j : Int) = (i : Int) + 1
        · obtain ⟨z1, z2, z3⟩ := z
          obtain rfl : j = i + 1 := by omega
          refine ⟨i + 1, isP_mk (by omega) (fun q hq => srt hw (j := i) (by omega) hi z1) (fun _ => by omega), ?_⟩
          rw [at_pos hj z2, mid_yes ⟨by omega, .inr z2⟩]; rfl
        · rw [if_neg z] at hs; simp at hs
    · rw [if_neg h1] at hc; simp at hc
end Go.Proofs.Ytdcmbcjkdhdohaa
