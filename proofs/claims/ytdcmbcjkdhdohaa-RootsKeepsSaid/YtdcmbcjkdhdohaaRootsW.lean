/- Witnesses: leaves in memory; climbing a path; what Check tells, as plain Lean. -/
import Derived.Test.YtdcmbcjkdhdohaaRootsP
namespace Go.Proofs.Ytdcmbcjkdhdohaa
open Go Go.RowKit
set_option linter.unusedSimpArgs false
set_option linter.unusedVariables false
/-- A leaf of a witness. -/
structure Le where
  n : Int
  c : Ce
  path : List (List UInt8)
/-- The hash of a tree of n cells from leaf i up, and the rows that are hashed; none: the path has not as many hashes as the way. -/
def climb2 (n i : Nat) (h : List UInt8) (path : List (List UInt8)) : Option (List UInt8 × List (List UInt8)) :=
  if n = 1 then (if path.length = 0 then some (h, []) else none)
  else if h0 : path.length = 0 then none
  else if i < half n then
    (climb2 (half n) i h (path.take (path.length - 1))).map fun x => (innerH x.1 (path.getD (path.length - 1) []), x.2 ++ [innerB x.1 (path.getD (path.length - 1) [])])
  else (climb2 (n - half n) (i - half n) h (path.take (path.length - 1))).map fun x => (innerH (path.getD (path.length - 1) []) x.1, x.2 ++ [innerB (path.getD (path.length - 1) []) x.1])
termination_by path.length
decreasing_by
  · rw [List.length_take]; omega
  · rw [List.length_take]; omega
def climbH (n i : Nat) (h : List UInt8) (path : List (List UInt8)) : Option (List UInt8) := (climb2 n i h path).map (·.1)
def climbR (n i : Nat) (h : List UInt8) (path : List (List UInt8)) : List (List UInt8) := match climb2 n i h path with | some x => x.2 | none => []
section
variable {n i : Nat} {h : List UInt8} {path : List (List UInt8)}
abbrev lastP (path : List (List UInt8)) : List UInt8 := path.getD (path.length - 1) []
abbrev restP (path : List (List UInt8)) : List (List UInt8) := path.take (path.length - 1)
theorem c2_one (hn : n = 1) (hp : path.length = 0) : climb2 n i h path = some (h, []) := by rw [climb2, if_pos hn, if_pos hp]
theorem c2_one' (hn : n = 1) (hp : ¬ path.length = 0) : climb2 n i h path = none := by rw [climb2, if_pos hn, if_neg hp]
theorem c2_nil (hn : ¬ n = 1) (hp : path.length = 0) : climb2 n i h path = none := by rw [climb2, if_neg hn, dif_pos hp]
theorem c2_l (hn : ¬ n = 1) (hp : ¬ path.length = 0) (hi : i < half n) : climb2 n i h path = (climb2 (half n) i h (restP path)).map fun x => (innerH x.1 (lastP path), x.2 ++ [innerB x.1 (lastP path)]) := by rw [climb2, if_neg hn, dif_neg hp, if_pos hi]
theorem c2_r (hn : ¬ n = 1) (hp : ¬ path.length = 0) (hi : ¬ i < half n) : climb2 n i h path = (climb2 (n - half n) (i - half n) h (restP path)).map fun x => (innerH (lastP path) x.1, x.2 ++ [innerB (lastP path) x.1]) := by rw [climb2, if_neg hn, dif_neg hp, if_neg hi]
theorem ch_one (hn : n = 1) (hp : path.length = 0) : climbH n i h path = some h := by rw [climbH, c2_one hn hp]; rfl
theorem ch_one' (hn : n = 1) (hp : ¬ path.length = 0) : climbH n i h path = none := by rw [climbH, c2_one' hn hp]; rfl
theorem ch_nil (hn : ¬ n = 1) (hp : path.length = 0) : climbH n i h path = none := by rw [climbH, c2_nil hn hp]; rfl
theorem ch_l (hn : ¬ n = 1) (hp : ¬ path.length = 0) (hi : i < half n) : climbH n i h path = (climbH (half n) i h (restP path)).map fun x => innerH x (lastP path) := by
  rw [climbH, c2_l hn hp hi, climbH, Option.map_map, Option.map_map]; rfl
theorem ch_r (hn : ¬ n = 1) (hp : ¬ path.length = 0) (hi : ¬ i < half n) : climbH n i h path = (climbH (n - half n) (i - half n) h (restP path)).map fun x => innerH (lastP path) x := by
  rw [climbH, c2_r hn hp hi, climbH, Option.map_map, Option.map_map]; rfl
theorem cr_none (hc : climbH n i h path = none) : climbR n i h path = [] := by
  unfold climbH at hc
  unfold climbR
  cases h2 : climb2 n i h path with
  | none => rfl
  | some x => rw [h2] at hc; cases hc
theorem cr_one (hn : n = 1) (hp : path.length = 0) : climbR n i h path = [] := by rw [climbR, c2_one hn hp]
theorem cr_l (hn : ¬ n = 1) (hp : ¬ path.length = 0) (hi : i < half n) {x : List UInt8} (hx : climbH (half n) i h (restP path) = some x) : climbR n i h path = climbR (half n) i h (restP path) ++ [innerB x (lastP path)] := by
  unfold climbH at hx
  unfold climbR
  rw [c2_l hn hp hi]
  cases h2 : climb2 (half n) i h (restP path) with
  | none => rw [h2] at hx; cases hx
  | some y =>
    rw [h2] at hx
    obtain rfl := Option.some.inj hx
    rfl
theorem cr_r (hn : ¬ n = 1) (hp : ¬ path.length = 0) (hi : ¬ i < half n) {x : List UInt8} (hx : climbH (n - half n) (i - half n) h (restP path) = some x) : climbR n i h path = climbR (n - half n) (i - half n) h (restP path) ++ [innerB (lastP path) x] := by
  unfold climbH at hx
  unfold climbR
  rw [c2_r hn hp hi]
  cases h2 : climb2 (n - half n) (i - half n) h (restP path) with
  | none => rw [h2] at hx; cases hx
  | some y =>
    rw [h2] at hx
    obtain rfl := Option.some.inj hx
    rfl
end
theorem climb_len : ∀ (m n i : Nat) (h : List UInt8) (path : List (List UInt8)) (x : List UInt8), path.length ≤ m → h.length = 32 → climbH n i h path = some x → x.length = 32
  | m, n, i, h, path, x, hm, hh, hx => by
    by_cases hn : n = 1
    · by_cases hp : path.length = 0
      · rw [ch_one hn hp] at hx; obtain rfl := Option.some.inj hx; exact hh
      · rw [ch_one' hn hp] at hx; cases hx
    · by_cases hp : path.length = 0
      · rw [ch_nil hn hp] at hx; cases hx
      · by_cases hi : i < half n
        · rw [ch_l hn hp hi] at hx
          obtain ⟨y, -, rfl⟩ := Option.map_eq_some_iff.1 hx
          exact innerH_len _ _
        · rw [ch_r hn hp hi] at hx
          obtain ⟨y, -, rfl⟩ := Option.map_eq_some_iff.1 hx
          exact innerH_len _ _
/-- A leaf stands under a root. -/
def stands (root : List UInt8) (n : Int) (f : Le) : Prop := kMay f.c.k ∧ 0 ≤ f.n ∧ f.n < n ∧ ∃ t, climbH n.toNat f.n.toNat (leafH f.c) f.path = some t ∧ topH n.toNat t = root
/-- What leaves that stand under the root say. -/
def saysA (kind : Int) (key : List UInt8) (n : Int) : List Le → Int
  | [x] => if plcC x.c.k x.c.key kind key = 0 then 1 else if (0 < plcC x.c.k x.c.key kind key ∧ x.n = 0) ∨ (plcC x.c.k x.c.key kind key < 0 ∧ x.n = n - 1) then 0 else -1
  | [x, y] => if plcC x.c.k x.c.key kind key < 0 ∧ 0 < plcC y.c.k y.c.key kind key ∧ y.n = x.n + 1 then 0 else -1
  | _ => -1
def le0 : Le := ⟨0, ⟨0, [], []⟩, []⟩
open Classical in
/-- What Check tells: the error, and the cell. -/
noncomputable def checkA (root : List UInt8) (kind : Int) (key : List UInt8) (n : Int) (ls : List Le) : Nat × Option Ce :=
  if ¬ kMay kind then (40, none)
  else if n = 0 ∧ ls.length = 0 then (if topH 0 [] = root then (0, none) else (190, none))
  else if 0 < n ∧ (ls.length = 1 ∨ ls.length = 2) ∧ ∀ f ∈ ls, stands root n f then
    (if saysA kind key n ls = 1 then (0, some (ls.getD 0 le0).c) else if saysA kind key n ls = 0 then (0, none) else (190, none))
  else (190, none)
/-! ### In memory -/
structure Lf where
  n : Int
  cell : Cl
  pv : Value
  path : List (List UInt8)
abbrev Lf.cs (f : Lf) : List Value := [I f.n, I f.cell.c.k, .string (bst f.cell.c.key), f.cell.v, f.pv]
abbrev Lf.e (f : Lf) : Le := ⟨f.n, f.cell.c, f.path⟩
structure LR (X : List Nat) (w : World) (f : Lf) : Prop where
  cell : CR X w f.cell
  rd : Rd X w 32 f.pv f.path.length (f.path.flatten.map B8)
  h32 : H32 f.path
  le : f.path.length ≤ 1099511627776
structure LsR (X : List Nat) (w : World) (v : Value) (ls : List Lf) : Prop where
  rd : Rd X w 5 v ls.length (ls.flatMap Lf.cs)
  each : ∀ f ∈ ls, LR X w f
  le : ls.length ≤ 1099511627776
def lf0 : Lf := ⟨0, c0, .slice none 0 0, []⟩
section
variable {w w0 : World} {X : List Nat} {L : List Part} {v : Value} {ls : List Lf} {f : Lf} {E : Part}
theorem LR.st (h : LR X w0 f) (H : St w0 X L w) : LR X w f := ⟨h.cell.st H, h.rd.st H, h.h32, h.le⟩
theorem LR.nil (h : LR X w f) : LR [] w f := ⟨h.cell.nil, h.rd.nil, h.h32, h.le⟩
theorem LR.awayX (h : LR X w0 f) (H : St w0 X (E :: L) w) : LR (E.map (·.1)) w f := ⟨h.cell.awayX H, h.rd.awayX H, h.h32, h.le⟩
theorem LsR.st (h : LsR X w0 v ls) (H : St w0 X L w) : LsR X w v ls := ⟨h.rd.st H, fun f hf => (h.each f hf).st H, h.le⟩
theorem LsR.nil (h : LsR X w v ls) : LsR [] w v ls := ⟨h.rd.nil, fun f hf => (h.each f hf).nil, h.le⟩
theorem LsR.awayX (h : LsR X w0 v ls) (H : St w0 X (E :: L) w) : LsR (E.map (·.1)) w v ls := ⟨h.rd.awayX H, fun f hf => (h.each f hf).awayX H, h.le⟩
theorem LsR.at (h : LsR X w v ls) {i : Nat} {d : Lf} (hi : i < ls.length) : LR X w (ls.getD i d) := by
  rw [List.getD_eq_getElem?_getD, List.getElem?_eq_getElem hi]; exact h.each _ (List.getElem_mem hi)
theorem flat5_len : ∀ (ls : List Lf), (ls.flatMap Lf.cs).length = ls.length * 5
  | [] => rfl
  | f :: ls => by rw [List.flatMap_cons, List.length_append, flat5_len ls]; simp; omega
theorem flat5_get : ∀ {ls : List Lf} {i j : Nat} {u : Value} {d : Lf}, i < ls.length → ((ls.getD i d).cs)[j]? = some u → (ls.flatMap Lf.cs)[i * 5 + j]? = some u
  | [], _, _, _, _, hi, _ => absurd hi (by simp)
  | f :: ls, 0, j, u, d, _, hu => by
    have hu' : f.cs[j]? = some u := hu
    have hj := (List.getElem?_eq_some_iff.1 hu').1
    rw [List.flatMap_cons, Nat.zero_mul, Nat.zero_add, List.getElem?_append_left hj]
    exact hu'
  | f :: ls, i + 1, j, u, d, hi, hu => by
    have hl : f.cs.length = 5 := rfl
    rw [List.flatMap_cons, List.getElem?_append_right (by omega), hl, show (i + 1) * 5 + j - 5 = i * 5 + j by omega]
    exact flat5_get (by simpa using hi) hu
end
end Go.Proofs.Ytdcmbcjkdhdohaa
