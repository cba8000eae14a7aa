/- Witnesses that are found: paths, leaves, what Find tells; the memory that holds them. -/
import Derived.Test.YtdcmbcjkdhdohaaRoots8
namespace Go.Proofs.Ytdcmbcjkdhdohaa
open Go Go.RowKit
set_option linter.unusedSimpArgs false
set_option linter.unusedVariables false
/-- The hashes that lead from leaf i up to the tree's. -/
def pathOf (l : List Ce) (i : Nat) : List (List UInt8) :=
  if h : l.length ≤ 1 then [] else if i < half l.length then pathOf (l.take (half l.length)) i ++ [treeH (l.drop (half l.length))]
  else pathOf (l.drop (half l.length)) (i - half l.length) ++ [treeH (l.take (half l.length))]
termination_by l.length
decreasing_by
  · have := half_lt (n := l.length) (by omega); rw [List.length_take]; omega
  · have := half_pos l.length; rw [List.length_drop]; omega
theorem path_one {l : List Ce} {i : Nat} (h : l.length ≤ 1) : pathOf l i = [] := by rw [pathOf, dif_pos h]
theorem path_l {l : List Ce} {i : Nat} (h : ¬ l.length ≤ 1) (hi : i < half l.length) : pathOf l i = pathOf (l.take (half l.length)) i ++ [treeH (l.drop (half l.length))] := by rw [pathOf, dif_neg h, if_pos hi]
theorem path_r {l : List Ce} {i : Nat} (h : ¬ l.length ≤ 1) (hi : ¬ i < half l.length) : pathOf l i = pathOf (l.drop (half l.length)) (i - half l.length) ++ [treeH (l.take (half l.length))] := by rw [pathOf, dif_neg h, if_neg hi]
theorem path_h32 : ∀ (m : Nat) (l : List Ce) (i : Nat), l.length ≤ m → H32 (pathOf l i)
  | 0, l, i, h => by rw [path_one (by omega)]; exact hh_nil
  | m + 1, l, i, h => by
    by_cases h1 : l.length ≤ 1
    · rw [path_one h1]; exact hh_nil
    · have h2 := half_lt (n := l.length) (by omega)
      have h3 := half_pos l.length
      by_cases hi : i < half l.length
      · rw [path_l h1 hi]; exact hh_app (path_h32 m _ _ (by rw [List.length_take]; omega)) (hh_one (treeH_len _))
      · rw [path_r h1 hi]; exact hh_app (path_h32 m _ _ (by rw [List.length_drop]; omega)) (hh_one (treeH_len _))
theorem path_len : ∀ (m : Nat) (l : List Ce) (i : Nat), l.length ≤ m → (pathOf l i).length ≤ l.length
  | 0, l, i, h => by rw [path_one (by omega)]; simp
  | m + 1, l, i, h => by
    by_cases h1 : l.length ≤ 1
    · rw [path_one h1]; simp
    · have h2 := half_lt (n := l.length) (by omega)
      have h3 := half_pos l.length
      by_cases hi : i < half l.length
      · have := path_len m (l.take (half l.length)) i (by rw [List.length_take]; omega)
        rw [List.length_take] at this
        rw [path_l h1 hi, List.length_append, List.length_singleton]; omega
      · have := path_len m (l.drop (half l.length)) (i - half l.length) (by rw [List.length_drop]; omega)
        rw [List.length_drop] at this
        rw [path_r h1 hi, List.length_append, List.length_singleton]; omega
section
variable {cs : List Cl} {i : Nat}
abbrev PL (cs : List Cl) : List Ce := cs.map (fun q : Cl => q.c)
theorem pathC_one (h : cs.length = 1) : pathOf (PL cs) i = [] := path_one (by rw [List.length_map]; omega)
theorem pathC_l (h : 1 < cs.length) (hi : i < half cs.length) : pathOf (PL cs) i = pathOf (PL (cs.take (half cs.length))) i ++ [treeH (PL (cs.drop (half cs.length)))] := by
  rw [path_l (by rw [List.length_map]; omega) (by rw [List.length_map]; exact hi), List.length_map]; simp only [PL, List.map_take, List.map_drop]
theorem pathC_r (h : 1 < cs.length) (hi : ¬ i < half cs.length) : pathOf (PL cs) i = pathOf (PL (cs.drop (half cs.length))) (i - half cs.length) ++ [treeH (PL (cs.take (half cs.length)))] := by
  rw [path_r (by rw [List.length_map]; omega) (by rw [List.length_map]; exact hi), List.length_map]; simp only [PL, List.map_take, List.map_drop]
theorem pathC_h32 (cs : List Cl) (i : Nat) : H32 (pathOf (PL cs) i) := path_h32 _ _ _ (Nat.le_refl _)
theorem pathC_len (cs : List Cl) (i : Nat) : (pathOf (PL cs) i).length ≤ cs.length := by
  have := path_len _ (PL cs) i (Nat.le_refl _)
  rwa [List.length_map] at this
end
/-- Leaf i of a list. -/
def leafAt (l : List Ce) (i : Nat) : Le := ⟨(i : Int), l.getD i ⟨0, [], []⟩, pathOf l i⟩
/-- p is where a kind and key belong. -/
def IsP (kind : Int) (key : List UInt8) (l : List Ce) (p : Nat) : Prop :=
  p ≤ l.length ∧ (∀ j, j < p → plcC (l.getD j ⟨0, [], []⟩).k (l.getD j ⟨0, [], []⟩).key kind key < 0) ∧ (p < l.length → ¬ plcC (l.getD p ⟨0, [], []⟩).k (l.getD p ⟨0, [], []⟩).key kind key < 0)
theorem IsP.uniq {kind : Int} {key : List UInt8} {l : List Ce} {p q : Nat} (hp : IsP kind key l p) (hq : IsP kind key l q) : p = q := by
  obtain ⟨h1, h2, h3⟩ := hp
  obtain ⟨k1, k2, k3⟩ := hq
  rcases Nat.lt_trichotomy p q with h | h | h
  · exact absurd (k2 p h) (h3 (by omega))
  · exact h
  · exact absurd (h2 q h) (k3 (by omega))
def hitAt (kind : Int) (key : List UInt8) (l : List Ce) (p : Nat) : Prop := p < l.length ∧ plcC (l.getD p ⟨0, [], []⟩).k (l.getD p ⟨0, [], []⟩).key kind key = 0
instance (kind : Int) (key : List UInt8) (l : List Ce) (p : Nat) : Decidable (hitAt kind key l p) := by unfold hitAt; infer_instance
/-- The leaves that Find tells where p is the place. -/
def leavesAt (kind : Int) (key : List UInt8) (l : List Ce) (p : Nat) : List Le :=
  if hitAt kind key l p then [leafAt l p] else (if 0 < p then [leafAt l (p - 1)] else []) ++ (if p < l.length then [leafAt l p] else [])
/-- What Find tells: how many, the leaves, the error. -/
def FindsA (kind : Int) (key : List UInt8) (l : List Ce) (n : Nat) (ls : List Le) (err : Nat) : Prop :=
  (¬ kMay kind ∧ n = 0 ∧ ls = [] ∧ err = 40) ∨ (kMay kind ∧ wrong l ≠ 0 ∧ n = 0 ∧ ls = [] ∧ err = wrong l) ∨
  (kMay kind ∧ wrong l = 0 ∧ n = l.length ∧ err = 0 ∧ ∃ p, IsP kind key l p ∧ ls = leavesAt kind key l p)
theorem FindsA.uniq {kind : Int} {key : List UInt8} {l : List Ce} {n n' err err' : Nat} {ls ls' : List Le} (h : FindsA kind key l n ls err) (k : FindsA kind key l n' ls' err') : n = n' ∧ ls = ls' ∧ err = err' := by
  rcases h with ⟨h1, rfl, rfl, rfl⟩ | ⟨h1, h2, rfl, rfl, rfl⟩ | ⟨h1, h2, rfl, rfl, p, hp, rfl⟩
  · rcases k with ⟨k1, rfl, rfl, rfl⟩ | ⟨k1, -⟩ | ⟨k1, -⟩
    · exact ⟨rfl, rfl, rfl⟩
    · exact absurd k1 h1
    · exact absurd k1 h1
  · rcases k with ⟨k1, -⟩ | ⟨k1, k2, rfl, rfl, rfl⟩ | ⟨k1, k2, -⟩
    · exact absurd h1 k1
    · exact ⟨rfl, rfl, rfl⟩
    · exact absurd k2 h2
  · rcases k with ⟨k1, -⟩ | ⟨k1, k2, -⟩ | ⟨k1, k2, rfl, rfl, q, hq, rfl⟩
    · exact absurd h1 k1
    · exact absurd h2 k2
    · rw [hp.uniq hq]; exact ⟨rfl, rfl, rfl⟩
/-! ### In memory -/
/-- A leaf of ours: its value's part and its path's. -/
def LeafP (f : Lf) (F : Part) : Prop := ∃ F1 F2, F = F1 ++ F2 ∧ OS 5 1 f.cell.v f.cell.c.l.length (f.cell.c.l.map B8) F1 ∧ OS 26 32 f.pv f.path.length (f.path.flatten.map B8) F2 ∧ small f.cell.c ∧ H32 f.path ∧ f.path.length ≤ 1099511627776 ∧ (∀ p ∈ F1, ∀ q ∈ F2, p.1 ≠ q.1)
def LeafsP : List Lf → Part → Prop
  | [], F => F = []
  | f :: fs, F => ∃ F1 F2, F = F1 ++ F2 ∧ LeafP f F1 ∧ LeafsP fs F2 ∧ (∀ p ∈ F1, ∀ q ∈ F2, p.1 ≠ q.1)
theorem LeafsP.snoc {f : Lf} {E : Part} (hf : LeafP f E) : ∀ {fs : List Lf} {F : Part}, LeafsP fs F → (∀ p ∈ F, ∀ q ∈ E, p.1 ≠ q.1) → LeafsP (fs ++ [f]) (F ++ E)
  | [], _, h, hd => by cases h; exact ⟨E, [], by simp, hf, rfl, by simp⟩
  | _ :: _, _, ⟨F1, F2, e, h1, h2, h3⟩, hd => by
    subst e
    refine ⟨F1, F2 ++ E, by rw [List.append_assoc], h1, LeafsP.snoc hf h2 (fun p hp q hq => hd p (List.mem_append_right _ hp) q hq), fun p hp q hq => ?_⟩
    rcases List.mem_append.1 hq with hq | hq
    · exact h3 p hp q hq
    · exact hd p (List.mem_append_left _ hp) q hq
section
variable {w w0 : World} {X : List Nat} {L : List Part}
theorem LeafP.lr {f : Lf} {F : Part} (h : LeafP f F) (H : St w0 X (F :: L) w) : LR [] w f := by
  obtain ⟨F1, F2, rfl, h1, h2, h3, h4, h5, -⟩ := h
  exact ⟨⟨h1.rd H.subL 0 rfl, h3⟩, h2.rd H.subR 0 rfl, h4, h5⟩
theorem LeafsP.lr : ∀ {fs : List Lf} {F : Part}, LeafsP fs F → St w0 X (F :: L) w → ∀ f ∈ fs, LR [] w f
  | [], _, _, _, f, hf => absurd hf (by simp)
  | g :: fs, _, ⟨F1, F2, e, h1, h2, _⟩, H, f, hf => by
    subst e
    rcases List.mem_cons.1 hf with rfl | hf
    · exact h1.lr H.subL
    · exact LeafsP.lr h2 H.subR f hf
/-- A slice of leaves of ours. -/
def LsP (v : Value) (ls : List Lf) (EB : Part) : Prop := ∃ E F, EB = E ++ F ∧ OS 74 5 v ls.length (ls.flatMap Lf.cs) E ∧ LeafsP ls F ∧ (∀ p ∈ E, ∀ q ∈ F, p.1 ≠ q.1) ∧ ls.length ≤ 1099511627776
theorem LsP.nil : LsP (.slice none 0 0) [] [] := ⟨[], [], rfl, OS.nil 74 5, rfl, by simp, by simp⟩
theorem LsP.rd {v : Value} {ls : List Lf} {EB : Part} (h : LsP v ls EB) (H : St w0 X L w) (i : Nat) (hi : L[i]? = some EB) : LsR [] w v ls := by
  obtain ⟨E, F, rfl, h1, h2, h3, h4⟩ := h
  have H1 := H.foc i hi rfl
  exact ⟨h1.rd H1.subL 0 rfl, h2.lr H1.subR, h4⟩
end
end Go.Proofs.Ytdcmbcjkdhdohaa
