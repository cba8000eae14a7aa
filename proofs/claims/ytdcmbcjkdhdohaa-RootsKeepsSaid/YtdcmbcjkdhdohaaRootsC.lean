/- A found witness is taken: the path of a leaf leads to the tree's hash. -/
import Derived.Test.YtdcmbcjkdhdohaaRoots15
namespace Go.Proofs.Ytdcmbcjkdhdohaa
open Go Go.RowKit
set_option linter.unusedSimpArgs false
set_option linter.unusedVariables false
theorem lastP_snoc {p : List (List UInt8)} {x : List UInt8} : lastP (p ++ [x]) = x := by
  unfold lastP
  rw [List.length_append, List.length_singleton, Nat.add_sub_cancel, List.getD_eq_getElem?_getD, List.getElem?_append_right (Nat.le_refl _), Nat.sub_self]; rfl
theorem restP_snoc {p : List (List UInt8)} {x : List UInt8} : restP (p ++ [x]) = p := by
  unfold restP
  rw [List.length_append, List.length_singleton, Nat.add_sub_cancel, List.take_left]
abbrev ce0 : Ce := ⟨0, [], []⟩
theorem climb_path : ∀ (m : Nat) (l : List Ce) (i : Nat), l.length ≤ m → i < l.length → climbH l.length i (leafH (l.getD i ce0)) (pathOf l i) = some (treeH l)
  | 0, l, i, h1, h2 => by omega
  | m + 1, l, i, h1, h2 => by
    by_cases hl : l.length ≤ 1
    · rw [path_one hl]
      match l, hl, h2 with
      | [c], _, h2 =>
        obtain rfl : i = 0 := by simp at h2; exact h2
        rw [ch_one (n := [c].length) rfl rfl, treeH_one]; rfl
    · have a1 := half_lt (n := l.length) (by omega)
      have a2 := half_pos l.length
      by_cases hi : i < half l.length
      · rw [path_l hl hi, ch_l (by omega) (by rw [List.length_append, List.length_singleton]; omega) hi, lastP_snoc, restP_snoc]
        have ih := climb_path m (l.take (half l.length)) i (by rw [List.length_take]; omega) (by rw [List.length_take]; omega)
        rw [List.length_take, Nat.min_eq_left (by omega)] at ih
        have eg : (l.take (half l.length)).getD i ce0 = l.getD i ce0 := by
          rw [List.getD_eq_getElem?_getD, List.getD_eq_getElem?_getD, List.getElem?_take_of_lt hi]
        rw [eg] at ih
        rw [ih, Option.map_some, treeH_more (l := l) (by omega)]
      · rw [path_r hl hi, ch_r (by omega) (by rw [List.length_append, List.length_singleton]; omega) hi, lastP_snoc, restP_snoc]
        have ih := climb_path m (l.drop (half l.length)) (i - half l.length) (by rw [List.length_drop]; omega) (by rw [List.length_drop]; omega)
        rw [List.length_drop] at ih
        have eg : (l.drop (half l.length)).getD (i - half l.length) ce0 = l.getD i ce0 := by
          rw [List.getD_eq_getElem?_getD, List.getD_eq_getElem?_getD, List.getElem?_drop, show half l.length + (i - half l.length) = i by omega]
        rw [eg] at ih
        rw [ih, Option.map_some, treeH_more (l := l) (by omega)]
theorem kinds_of {l : List Ce} (h : wrong l = 0) : kinds l := by
  unfold wrong at h
  split at h
  · assumption
  · omega
theorem stands_at {l : List Ce} {i : Nat} (h : wrong l = 0) (hi : i < l.length) : stands (rootA l) l.length (leafAt l i) := by
  have hk : kMay (l.getD i ce0).k := by
    rw [List.getD_eq_getElem?_getD, List.getElem?_eq_getElem hi]; exact kinds_of h _ (List.getElem_mem hi)
  refine ⟨hk, by show (0 : Int) ≤ (i : Int); omega, by show (i : Int) < (l.length : Int); omega, treeH l, ?_, ?_⟩
  · show climbH (l.length : Int).toNat (i : Int).toNat (leafH (l.getD i ce0)) (pathOf l i) = some (treeH l)
    rw [Int.toNat_natCast, Int.toNat_natCast]
    exact climb_path _ l i (Nat.le_refl _) hi
  · rw [Int.toNat_natCast, rootA_yes h]
    unfold rootH
    rw [if_neg (by omega)]
/-- What the list tells of a kind and key. -/
def tellsA (kind : Int) (key : List UInt8) (l : List Ce) (p : Nat) : Option Ce := if hitAt kind key l p then some (l.getD p ce0) else none
theorem leaves_len {kind : Int} {key : List UInt8} {l : List Ce} {p : Nat} (h0 : 0 < l.length) (hp : p ≤ l.length) : (leavesAt kind key l p).length = 1 ∨ (leavesAt kind key l p).length = 2 := by
  unfold leavesAt
  split
  · exact .inl rfl
  · split
    · split <;> simp
    · rw [if_pos (by omega)]; simp
theorem ord_at {l : List Ce} (h : wrong l = 0) {i : Nat} (hi : i + 1 < l.length) : ahead (l.getD i ce0).k (l.getD i ce0).key (l.getD (i + 1) ce0).k (l.getD (i + 1) ce0).key := by
  have ho : ordered l := ord_of h
  refine ho i _ _ ?_ ?_
  · rw [List.getD_eq_getElem?_getD, List.getElem?_eq_getElem (by omega)]; rfl
  · rw [List.getD_eq_getElem?_getD, List.getElem?_eq_getElem hi]; rfl
theorem check_found {kind : Int} {key : List UInt8} {l : List Ce} {p : Nat} (hk : kMay kind) (h : wrong l = 0) (hp : IsP kind key l p) : checkA (rootA l) kind key (l.length : Int) (leavesAt kind key l p) = (0, tellsA kind key l p) := by
  obtain ⟨h1, h2, h3⟩ := hp
  unfold checkA
  rw [if_neg (not_not_intro hk)]
  by_cases h0 : l.length = 0
  · have hp0 : p = 0 := by omega
    subst hp0
    have hnh : ¬ hitAt kind key l 0 := fun hh => by have := hh.1; omega
    have hl : leavesAt kind key l 0 = [] := by
      unfold leavesAt; rw [if_neg hnh, if_neg (Nat.lt_irrefl _), if_neg (by omega)]; rfl
    rw [if_pos ⟨by omega, by rw [hl]; rfl⟩, if_pos (by rw [rootA_yes h]; unfold rootH; rw [if_pos h0])]
    unfold tellsA; rw [if_neg hnh]
  · have hll := leaves_len (kind := kind) (key := key) (l := l) (p := p) (by omega) h1
    have hst : ∀ f ∈ leavesAt kind key l p, stands (rootA l) l.length f := by
      intro f hf
      unfold leavesAt at hf
      split at hf
      · rename_i hh
        rw [List.mem_singleton.1 hf]; exact stands_at h hh.1
      · rcases List.mem_append.1 hf with hf | hf
        · split at hf
          · rw [List.mem_singleton.1 hf]; exact stands_at h (by omega)
          · exact absurd hf (by simp)
        · split at hf
          · rw [List.mem_singleton.1 hf]; exact stands_at h (by omega)
          · exact absurd hf (by simp)
    rw [if_neg (fun hh => by have := hh.1; omega), if_pos ⟨by omega, hll, hst⟩]
    unfold tellsA
    by_cases hh : hitAt kind key l p
    · have hl : leavesAt kind key l p = [leafAt l p] := if_pos hh
      rw [hl, if_pos hh]
      have hs : saysA kind key (l.length : Int) [leafAt l p] = 1 := by
        unfold saysA
        exact if_pos hh.2
      rw [if_pos hs]; rfl
    · rw [if_neg hh]
      have hs : saysA kind key (l.length : Int) (leavesAt kind key l p) = 0 := by
        unfold leavesAt
        rw [if_neg hh]
        by_cases hp0 : 0 < p
        · have q1 := h2 (p - 1) (by omega)
          by_cases hpl : p < l.length
          · have q2 := h3 hpl
            have q3 : ¬ plcC (l.getD p ce0).k (l.getD p ce0).key kind key = 0 := fun e => hh ⟨hpl, e⟩
            rw [if_pos hp0, if_pos hpl]
            show saysA kind key (l.length : Int) [leafAt l (p - 1), leafAt l p] = 0
            unfold saysA
            refine if_pos ⟨q1, ?_, ?_⟩
            · show 0 < plcC (l.getD p ce0).k (l.getD p ce0).key kind key
              have q2' : ¬ plcC (l.getD p ce0).k (l.getD p ce0).key kind key < 0 := q2
              omega
            · show (p : Int) = ((p - 1 : Nat) : Int) + 1
              omega
          · rw [if_pos hp0, if_neg hpl]
            show saysA kind key (l.length : Int) [leafAt l (p - 1)] = 0
            unfold saysA
            have q1' : plcC (l.getD (p - 1) ce0).k (l.getD (p - 1) ce0).key kind key < 0 := q1
            show (if plcC (l.getD (p - 1) ce0).k (l.getD (p - 1) ce0).key kind key = 0 then (1 : Int) else if (0 < plcC (l.getD (p - 1) ce0).k (l.getD (p - 1) ce0).key kind key ∧ ((p - 1 : Nat) : Int) = 0) ∨ (plcC (l.getD (p - 1) ce0).k (l.getD (p - 1) ce0).key kind key < 0 ∧ ((p - 1 : Nat) : Int) = (l.length : Int) - 1) then 0 else -1) = 0
            rw [if_neg (by omega), if_pos (.inr ⟨q1', by omega⟩)]
        · have hpl : p < l.length := by omega
          have q2 := h3 hpl
          have q3 : ¬ plcC (l.getD p ce0).k (l.getD p ce0).key kind key = 0 := fun e => hh ⟨hpl, e⟩
          have q2' : ¬ plcC (l.getD p ce0).k (l.getD p ce0).key kind key < 0 := q2
          rw [if_neg hp0, if_pos hpl]
          show saysA kind key (l.length : Int) [leafAt l p] = 0
          unfold saysA
          show (if plcC (l.getD p ce0).k (l.getD p ce0).key kind key = 0 then (1 : Int) else if (0 < plcC (l.getD p ce0).k (l.getD p ce0).key kind key ∧ (p : Int) = 0) ∨ (plcC (l.getD p ce0).k (l.getD p ce0).key kind key < 0 ∧ (p : Int) = (l.length : Int) - 1) then 0 else -1) = 0
          rw [if_neg q3, if_pos (.inl ⟨by omega, by omega⟩)]
      rw [if_neg (by omega), if_pos hs]
end Go.Proofs.Ytdcmbcjkdhdohaa
