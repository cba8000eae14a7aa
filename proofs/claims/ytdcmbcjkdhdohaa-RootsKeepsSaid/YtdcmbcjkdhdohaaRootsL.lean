/- The layer of roots, as plain Lean (cells, their order, leaves, trees, roots); cells in memory; a writer of bytes in memory; strings compared. -/
import Derived.Test.YtdcmbcjkdhdohaaRHash
import Derived.Test.YtdcmbcjkdhdohaaBit
namespace Go.Proofs.Ytdcmbcjkdhdohaa
open Go Go.RowKit
set_option linter.unusedSimpArgs false
set_option linter.unusedVariables false

/-! ### Plain -/
/-- A cell. -/
structure Ce where
  k : Int
  key : List UInt8
  l : List UInt8
/-- A string stands ahead of another one. -/
def slt (a b : List UInt8) : Prop := Op.bytesLess a b = true
instance (a b : List UInt8) : Decidable (slt a b) := by unfold slt; infer_instance
theorem slt_irr : ∀ (a : List UInt8), ¬ slt a a
  | [] => by simp [slt, Op.bytesLess]
  | x :: a => by
    have := slt_irr a
    simp only [slt, Op.bytesLess] at this ⊢
    simp [this]
theorem slt_tri : ∀ (a b : List UInt8), slt a b ∨ a = b ∨ slt b a
  | [], [] => .inr (.inl rfl)
  | [], _ :: _ => .inl rfl
  | _ :: _, [] => .inr (.inr rfl)
  | x :: a, y :: b => by
    simp only [slt, Op.bytesLess, Bool.or_eq_true, Bool.and_eq_true, decide_eq_true_eq, beq_iff_eq, List.cons.injEq]
    have h := slt_tri a b
    simp only [slt] at h
    rcases Nat.lt_trichotomy x.toNat y.toNat with h1 | h1 | h1
    · exact .inl (.inl (UInt8.lt_iff_toNat_lt.2 h1))
    · have e : x = y := UInt8.toNat_inj.1 h1
      subst e
      rcases h with h | h | h
      · exact .inl (.inr ⟨rfl, h⟩)
      · exact .inr (.inl ⟨rfl, h⟩)
      · exact .inr (.inr (.inr ⟨rfl, h⟩))
    · exact .inr (.inr (.inl (UInt8.lt_iff_toNat_lt.2 h1)))
theorem slt_asymm : ∀ {a b : List UInt8}, slt a b → ¬ slt b a
  | [], [], h => by simp [slt, Op.bytesLess] at h
  | [], _ :: _, _ => by simp [slt, Op.bytesLess]
  | _ :: _, [], h => by simp [slt, Op.bytesLess] at h
  | x :: a, y :: b, h => by
    simp only [slt, Op.bytesLess, Bool.or_eq_true, Bool.and_eq_true, decide_eq_true_eq, beq_iff_eq] at h ⊢
    rintro (h2 | ⟨h2, h3⟩)
    · have h2' := UInt8.lt_iff_toNat_lt.1 h2
      rcases h with h | ⟨h, -⟩
      · have := UInt8.lt_iff_toNat_lt.1 h; omega
      · subst h; omega
    · subst h2
      rcases h with h | ⟨-, h⟩
      · have := UInt8.lt_iff_toNat_lt.1 h; omega
      · exact slt_asymm h h3
theorem slt_trans : ∀ {a b c : List UInt8}, slt a b → slt b c → slt a c
  | [], [], _, h, _ => by simp [slt, Op.bytesLess] at h
  | _ :: _, [], _, h, _ => by simp [slt, Op.bytesLess] at h
  | _, _ :: _, [], _, h => by simp [slt, Op.bytesLess] at h
  | [], _ :: _, _ :: _, _, _ => rfl
  | x :: a, y :: b, z :: c, h1, h2 => by
    simp only [slt, Op.bytesLess, Bool.or_eq_true, Bool.and_eq_true, decide_eq_true_eq, beq_iff_eq] at h1 h2 ⊢
    rcases h1 with h1 | ⟨rfl, h1⟩
    · have q1 := UInt8.lt_iff_toNat_lt.1 h1
      rcases h2 with h2 | ⟨rfl, h2⟩
      · have q2 := UInt8.lt_iff_toNat_lt.1 h2
        exact .inl (UInt8.lt_iff_toNat_lt.2 (by omega))
      · exact .inl h1
    · rcases h2 with h2 | ⟨rfl, h2⟩
      · exact .inl h2
      · exact .inr ⟨rfl, slt_trans h1 h2⟩
def cmpI (a b : Int) : Int := if a < b then -1 else if b < a then 1 else 0
def cmpS (a b : List UInt8) : Int := if slt a b then -1 else if a = b then 0 else 1
/-- How a kind and key stand to another kind and key. -/
def plcC (k : Int) (key : List UInt8) (k2 : Int) (key2 : List UInt8) : Int := if cmpI k k2 ≠ 0 then cmpI k k2 else cmpS key key2
abbrev ahead (k : Int) (key : List UInt8) (k2 : Int) (key2 : List UInt8) : Prop := k < k2 ∨ k = k2 ∧ slt key key2
theorem plc_neg {k k2 : Int} {key key2 : List UInt8} : plcC k key k2 key2 < 0 ↔ ahead k key k2 key2 := by
  unfold plcC cmpI cmpS ahead
  have := slt_irr key
  by_cases h1 : k < k2
  · simp [h1]
  · by_cases h2 : k2 < k
    · have : ¬ k = k2 := by omega
      simp [h1, h2, this]
    · have e : k = k2 := by omega
      subst e
      by_cases h3 : slt key key2
      · simp [h3]
      · by_cases h4 : key = key2
        · subst h4; simp [h3]
        · simp [h3, h4]
theorem plc_pos {k k2 : Int} {key key2 : List UInt8} : 0 < plcC k key k2 key2 ↔ ahead k2 key2 k key := by
  unfold plcC cmpI cmpS ahead
  by_cases h1 : k < k2
  · have : ¬ k2 < k := by omega
    have : ¬ k2 = k := by omega
    simp [*]
  · by_cases h2 : k2 < k
    · simp [h1, h2]
    · have e : k = k2 := by omega
      subst e
      by_cases h3 : slt key key2
      · have := slt_asymm h3
        simp [h3, this]
      · by_cases h4 : key = key2
        · subst h4; simp [h3]
        · have h5 := (slt_tri key key2).resolve_left h3 |>.resolve_left h4
          simp [h3, h4, h5]
theorem plc_zero {k k2 : Int} {key key2 : List UInt8} : plcC k key k2 key2 = 0 ↔ k = k2 ∧ key = key2 := by
  unfold plcC cmpI cmpS
  by_cases h1 : k < k2
  · have : ¬ k = k2 := by omega
    simp [*]
  · by_cases h2 : k2 < k
    · have : ¬ k = k2 := by omega
      simp [*]
    · have e : k = k2 := by omega
      subst e
      have := slt_irr key
      by_cases h4 : key = key2
      · subst h4; simp [this]
      · by_cases h3 : slt key key2
        · simp [h3, h4]
        · simp [h3, h4]
def kMay (k : Int) : Prop := 1 ≤ k ∧ k ≤ 4
instance (k : Int) : Decidable (kMay k) := by unfold kMay; infer_instance
/-- A number's form. -/
def numN (x : Nat) : List UInt8 := if x < 128 then [UInt8.ofNat x] else UInt8.ofNat (x % 128 + 128) :: numN (x / 128)
termination_by x
decreasing_by omega
theorem numN_small {x : Nat} (h : x < 128) : numN x = [UInt8.ofNat x] := by rw [numN, if_pos h]
theorem numN_big {x : Nat} (h : ¬ x < 128) : numN x = UInt8.ofNat (x % 128 + 128) :: numN (x / 128) := by rw [numN, if_neg h]
theorem numN_le : ∀ (n x : Nat), x < 128 ^ (n + 1) → (numN x).length ≤ n + 1
  | 0, x, h => by rw [numN_small (by omega)]; simp
  | n + 1, x, h => by
    by_cases h1 : x < 128
    · rw [numN_small h1]; simp
    · rw [numN_big h1, List.length_cons]
      have := numN_le n (x / 128) (by rw [Nat.div_lt_iff_lt_mul (by omega)]; rw [Nat.pow_succ] at h; omega)
      omega
theorem num_le (x : UInt64) : (numN x.toNat).length ≤ 10 := numN_le 9 _ (by have := x.toNat_lt; omega)
/-- The bytes of a cell's leaf. -/
def leafB (c : Ce) : List UInt8 := 0 :: (numN (u64 c.k).toNat ++ (numN c.key.length ++ c.key) ++ (numN c.l.length ++ c.l))
def leafH (c : Ce) : List UInt8 := sha (leafB c)
def innerB (a b : List UInt8) : List UInt8 := 1 :: (a ++ b)
def innerH (a b : List UInt8) : List UInt8 := sha (innerB a b)
/-- Eight bytes of an int. -/
def l8 (n : Nat) : List UInt8 := (List.range 8).map fun i => b8 ((n / 2 ^ (8 * i) : Nat) : Int)
@[simp] theorem l8_len (n : Nat) : (l8 n).length = 8 := by simp [l8]
def topB (n : Nat) (t : List UInt8) : List UInt8 := 2 :: (l8 n ++ t)
def topH (n : Nat) (t : List UInt8) : List UInt8 := sha (topB n t)
/-- The greatest power of two below n, by doubling. -/
def halfF : Nat → Nat → Nat → Nat
  | 0, m, _ => m
  | f + 1, m, n => if 2 * m < n then halfF f (2 * m) n else m
def half (n : Nat) : Nat := halfF 64 1 n
theorem halfF_lt : ∀ (f m n : Nat), m < n → halfF f m n < n
  | 0, _, _, h => h
  | f + 1, m, n, h => by
    simp only [halfF]
    split
    · exact halfF_lt f _ _ (by assumption)
    · exact h
theorem halfF_pos : ∀ (f m n : Nat), 0 < m → 0 < halfF f m n
  | 0, _, _, h => h
  | f + 1, m, n, h => by
    simp only [halfF]
    split
    · exact halfF_pos f _ _ (by omega)
    · exact h
theorem half_lt {n : Nat} (h : 1 < n) : half n < n := halfF_lt 64 1 n h
theorem half_pos (n : Nat) : 0 < half n := halfF_pos 64 1 n (by omega)
/-- The hash of the tree of cells. -/
def treeH (l : List Ce) : List UInt8 :=
  match h : l with
  | [] => List.replicate 32 0
  | [c] => leafH c
  | _ :: _ :: _ => innerH (treeH (l.take (half l.length))) (treeH (l.drop (half l.length)))
termination_by l.length
decreasing_by
  · have hh := congrArg List.length h
    have := half_lt (n := l.length) (by rw [hh]; simp)
    rw [List.length_take]; omega
  · have hh := congrArg List.length h
    have := half_pos l.length
    rw [List.length_drop]
    have : 0 < l.length := by rw [hh]; simp
    omega
theorem treeH_one (c : Ce) : treeH [c] = leafH c := by rw [treeH]
theorem treeH_more {l : List Ce} (h : 1 < l.length) : treeH l = innerH (treeH (l.take (half l.length))) (treeH (l.drop (half l.length))) := by
  match l, h with
  | a :: b :: l, _ => rw [treeH]
def rootH (l : List Ce) : List UInt8 := if l.length = 0 then topH 0 [] else topH l.length (treeH l)
@[simp] theorem leafH_len (c : Ce) : (leafH c).length = 32 := sha_length _
@[simp] theorem innerH_len (a b : List UInt8) : (innerH a b).length = 32 := sha_length _
@[simp] theorem topH_len (n : Nat) (t : List UInt8) : (topH n t).length = 32 := sha_length _
theorem treeH_len (l : List Ce) : (treeH l).length = 32 := by
  match l with
  | [] => rw [treeH]; simp
  | [c] => rw [treeH_one]; simp
  | a :: b :: l => rw [treeH_more (by simp)]; simp
@[simp] theorem rootH_len (l : List Ce) : (rootH l).length = 32 := by unfold rootH; split <;> simp
/-- No kind is wrong, and each stands ahead of the next. -/
def kinds (l : List Ce) : Prop := ∀ c ∈ l, kMay c.k
def ordered (l : List Ce) : Prop := ∀ i a b, l[i]? = some a → l[i + 1]? = some b → ahead a.k a.key b.k b.key
open Classical in
noncomputable def wrong (l : List Ce) : Nat := if kinds l then (if ordered l then 0 else 130) else 40
open Classical in
/-- Root's answer. -/
noncomputable def rootA (l : List Ce) : List UInt8 := if wrong l = 0 then rootH l else List.replicate 32 0
theorem rootA_len (l : List Ce) : (rootA l).length = 32 := by unfold rootA; split <;> simp

/-! ### In memory -/
/-- A cell with the value of its slice. -/
structure Cl where
  c : Ce
  v : Value
abbrev Cl.cs (c : Cl) : List Value := [I c.c.k, .string (bst c.c.key), c.v]
/-- Sizes that fit everywhere. -/
def small (c : Ce) : Prop := c.key.length ≤ 140737488351232 ∧ c.l.length ≤ 1099511627776
/-- A cell that is read. -/
def CR (X : List Nat) (w : World) (c : Cl) : Prop := Rd X w 1 c.v c.c.l.length (c.c.l.map B8) ∧ small c.c
/-- A slice of cells that is read. -/
structure CsR (X : List Nat) (w : World) (v : Value) (cs : List Cl) : Prop where
  rd : Rd X w 3 v cs.length (cs.flatMap Cl.cs)
  each : ∀ c ∈ cs, CR X w c
  le : cs.length ≤ 1099511627776
section
variable {w w0 : World} {X : List Nat} {L : List Part} {v : Value} {cs : List Cl} {c : Cl}
theorem Rd.one {s n : Nat} {cs : List Value} (h : Rd X w s v n cs) : v.oneCell' = true := by
  obtain ⟨a, cap, rfl, -⟩ := h.shape
  rfl
theorem CR.st (h : CR X w0 c) (H : St w0 X L w) : CR X w c := ⟨h.1.st H, h.2⟩
theorem CR.nil (h : CR X w c) : CR [] w c := ⟨h.1.nil, h.2⟩
theorem CsR.st (h : CsR X w0 v cs) (H : St w0 X L w) : CsR X w v cs := ⟨h.rd.st H, fun c hc => (h.each c hc).st H, h.le⟩
theorem CsR.nil (h : CsR X w v cs) : CsR [] w v cs := ⟨h.rd.nil, fun c hc => (h.each c hc).nil, h.le⟩
theorem flat3_len : ∀ (cs : List Cl), (cs.flatMap Cl.cs).length = cs.length * 3
  | [] => rfl
  | c :: cs => by rw [List.flatMap_cons, List.length_append, flat3_len cs]; simp; omega
theorem flat3_get : ∀ {cs : List Cl} {i j : Nat} {u : Value} {d : Cl}, i < cs.length → ((cs.getD i d).cs)[j]? = some u → (cs.flatMap Cl.cs)[i * 3 + j]? = some u
  | [], _, _, _, _, hi, _ => absurd hi (by simp)
  | c :: cs, 0, j, u, d, _, hu => by
    have hu' : c.cs[j]? = some u := hu
    have hj := (List.getElem?_eq_some_iff.1 hu').1
    rw [List.flatMap_cons, Nat.zero_mul, Nat.zero_add, List.getElem?_append_left hj]
    exact hu'
  | c :: cs, i + 1, j, u, d, hi, hu => by
    have hl : c.cs.length = 3 := rfl
    rw [List.flatMap_cons, List.getElem?_append_right (by omega), hl, show (i + 1) * 3 + j - 3 = i * 3 + j by omega]
    exact flat3_get (by simpa using hi) hu
theorem flat3_take : ∀ (cs : List Cl) (m : Nat), (cs.flatMap Cl.cs).take (m * 3) = (cs.take m).flatMap Cl.cs
  | [], m => by simp
  | c :: cs, 0 => by simp
  | c :: cs, m + 1 => by
    have hl : c.cs.length = 3 := rfl
    rw [List.take_succ_cons, List.flatMap_cons, List.flatMap_cons, ← flat3_take cs m, show (m + 1) * 3 = c.cs.length + m * 3 by omega, List.take_length_add_append]
theorem flat3_drop : ∀ (cs : List Cl) (m : Nat), (cs.flatMap Cl.cs).drop (m * 3) = (cs.drop m).flatMap Cl.cs
  | [], m => by simp
  | c :: cs, 0 => by simp
  | c :: cs, m + 1 => by
    have hl : c.cs.length = 3 := rfl
    rw [List.drop_succ_cons, List.flatMap_cons, ← flat3_drop cs m, show (m + 1) * 3 = c.cs.length + m * 3 by omega, List.drop_length_add_append]
theorem CsR.pre (h : CsR X w v cs) {m : Nat} (hm : m ≤ cs.length) : CsR X w (slv 3 0 m v) (cs.take m) := by
  have := h.rd.slv (Nat.zero_le m) hm
  rw [Nat.sub_zero, Nat.zero_mul, List.drop_zero, flat3_take] at this
  refine ⟨by rw [List.length_take, Nat.min_eq_left hm]; exact this, fun c hc => h.each c (List.mem_of_mem_take hc), ?_⟩
  have := h.le
  rw [List.length_take]; omega
theorem CsR.suf (h : CsR X w v cs) {m : Nat} (hm : m ≤ cs.length) : CsR X w (slv 3 m cs.length v) (cs.drop m) := by
  have := h.rd.slv hm (Nat.le_refl _)
  rw [flat3_drop, List.take_of_length_le (by rw [flat3_len, List.length_drop]; omega)] at this
  refine ⟨by rw [List.length_drop]; exact this, fun c hc => h.each c (List.mem_of_mem_drop hc), ?_⟩
  have := h.le
  rw [List.length_drop]; omega
theorem CsR.at (h : CsR X w v cs) {i : Nat} {d : Cl} (hi : i < cs.length) : CR X w (cs.getD i d) := by
  rw [List.getD_eq_getElem?_getD, List.getElem?_eq_getElem hi]; exact h.each _ (List.getElem_mem hi)
end
def c0 : Cl := ⟨⟨0, [], []⟩, .slice none 0 0⟩
/-- A part of ours, as a call that may write into it finds it. -/
theorem St.initE {w : World} {E : Part} (h : ∀ p ∈ E, w.heap[p.1]? = some p.2) : St w (E.map (·.1)) [E] w :=
  ⟨rfl, rfl, rfl, Nat.le_refl _, fun _ _ _ => rfl, fun F hF p hp => by obtain rfl := List.mem_singleton.1 hF; exact h p hp,
    fun F hF p hp _ => by obtain rfl := List.mem_singleton.1 hF; exact List.mem_map_of_mem hp, by simp⟩
/-- A writer of bytes (pack.Out): its block, and its slice. -/
def OutP (g : Nat) (l : List UInt8) (EO : Part) : Prop := ∃ bv E, EO = [(g, Rw 170 [bv])] ++ E ∧ OS 5 1 bv l.length (l.map B8) E ∧ ∀ p ∈ ([(g, Rw 170 [bv])] : Part), ∀ q ∈ E, p.1 ≠ q.1
section
variable {P : Program} {n : Nat} {f : Nat → Value} {ty t t2 : TypeId} {w w0 : World} {x y : Operand} {X : List Nat} {L : List Part}
theorem y_lssS {a b : List UInt8} (hx : ev n f x = .string (bst a)) (hy : ev n f y = .string (bst b)) : Y P n f (.binOp .lss t x y t2) ty w (.bool (decide (slt a b))) w := by
  intro o ho _
  have hb : (Go.binOp .lss t (.string (bst a)) (.string (bst b))).run P w = .ok (.bool (decide (slt a b))) w := by
    show (Op.stringOp .lss (bst a) (bst b)).run P w = _
    have : Op.bytesLess (bst a).toList (bst b).toList = decide (slt a b) := by rw [bst_toList, bst_toList, Bool.eq_iff_iff, decide_eq_true_eq]; exact Iff.rfl
    simp [Op.stringOp, this]
  have hg : (eqGuard .lss t x y (.string (bst a)) (.string (bst b))).run P w = .ok PUnit.unit w := by simp [eqGuard]
  simp [execOp, ho, hx, hy, hb, hg]
theorem y_gtrS {a b : List UInt8} (hx : ev n f x = .string (bst a)) (hy : ev n f y = .string (bst b)) : Y P n f (.binOp .gtr t x y t2) ty w (.bool (decide (¬ (slt a b ∨ a = b)))) w := by
  intro o ho _
  have hb : (Go.binOp .gtr t (.string (bst a)) (.string (bst b))).run P w = .ok (.bool (decide (¬ (slt a b ∨ a = b)))) w := by
    show (Op.stringOp .gtr (bst a) (bst b)).run P w = _
    have : (!(Op.bytesLess (bst a).toList (bst b).toList || (bst a).toList == (bst b).toList)) = decide (¬ (slt a b ∨ a = b)) := by rw [bst_toList, bst_toList, Bool.eq_iff_iff]; simp [slt]
    simp [Op.stringOp, this]
  have hg : (eqGuard .gtr t x y (.string (bst a)) (.string (bst b))).run P w = .ok PUnit.unit w := by simp [eqGuard]
  simp [execOp, ho, hx, hy, hb, hg]
theorem y_lenS {l : List UInt8} {ty2 : TypeId} (hu : P.underlying t = some .string) (hx : ev n f x = .string (bst l)) : Y P n f (.call { callee := .builtin .len, args := #[x], argTypes := #[t] }) ty2 w (I (l.length : Nat)) w := y_lenStr hu hx
theorem src_str {tx : TypeId} (hk : P.underlying tx = some .string) (l : List UInt8) : Src P 1 tx (.string (bst l)) l.length (l.map B8) w := by
  have h := Src.ofString (w := w) hk (bst l)
  have e1 : (bst l).size = l.length := rfl
  have e2 : byteCells (bst l) = l.map B8 := rfl
  rwa [e1, e2] at h
end
theorem bst_size (l : List UInt8) : (bst l).size = l.length := rfl
theorem u64_nat {n : Nat} (h : n < 18446744073709551616) : (u64 (n : Int)).toNat = n := by
  have := u64_val (n : Int)
  omega
/-- One more byte of a number. -/
theorem num_step {l r : List UInt8} {x x' : UInt64} (h : r ++ numN x'.toNat = l ++ numN x.toNat) (hx : 128 ≤ x') : (r ++ [x'.toUInt8 ||| 128]) ++ numN (x' >>> UInt64.ofNat 7).toNat = l ++ numN x.toNat := by
  have h1 : 128 ≤ x'.toNat := UInt64.le_iff_toNat_le.1 hx
  rw [← h, numN_big (x := x'.toNat) (by omega), List.append_assoc]
  congr 1
  have e1 : (x' >>> UInt64.ofNat 7).toNat = x'.toNat / 128 := by
    rw [UInt64.toNat_shiftRight, UInt64.toNat_ofNat']
    rw [Nat.shiftRight_eq_div_pow]
  have e2 : (x'.toUInt8 ||| 128) = UInt8.ofNat (x'.toNat % 128 + 128) := by
    apply UInt8.toNat_inj.1
    rw [UInt8.toNat_or, UInt64.toNat_toUInt8, UInt8.toNat_ofNat']
    have h128 : (128 : UInt8).toNat = 2 ^ 7 := rfl
    have hm : x'.toNat % 2 ^ 8 = 2 ^ 7 * (x'.toNat / 128 % 2) + x'.toNat % 128 := by omega
    rw [h128, hm]
    have h2 : x'.toNat / 128 % 2 = 0 ∨ x'.toNat / 128 % 2 = 1 := by omega
    have h3 : x'.toNat % 128 < 2 ^ 7 := by omega
    have h4 : x'.toNat % 128 ||| 2 ^ 7 = 2 ^ 7 + x'.toNat % 128 := by
      have := Nat.two_pow_add_eq_or_of_lt h3 1
      rw [Nat.mul_one] at this
      rw [this, Nat.or_comm]
    rcases h2 with h2 | h2
    · rw [h2, Nat.mul_zero, Nat.zero_add, h4]; omega
    · rw [h2, Nat.mul_one, ← h4, Nat.or_assoc, Nat.or_self, h4]; omega
  rw [e1, e2]; rfl
theorem num_last {l r : List UInt8} {x x' : UInt64} (h : r ++ numN x'.toNat = l ++ numN x.toNat) (hx : ¬ 128 ≤ x') : r ++ [x'.toUInt8] = l ++ numN x.toNat := by
  have h1 : ¬ 128 ≤ x'.toNat := fun q => hx (UInt64.le_iff_toNat_le.2 q)
  rw [← h, numN_small (by omega)]
  congr 2
end Go.Proofs.Ytdcmbcjkdhdohaa
