/- Slices of hashes (as HashS and HashT, without the layers of bloom). -/
import Derived.Test.YtdcmbcjkdhdohaaRef1
import Derived.Test.YtdcmbcjkdhdohaaStr
import Derived.Test.YtdcmbcjkdhdohaaTwo
namespace Go.Proofs.Ytdcmbcjkdhdohaa
open Go Go.RowKit
set_option linter.unusedSimpArgs false
set_option linter.unusedVariables false
theorem getD_len {hs : List (List UInt8)} (hh : ∀ h ∈ hs, h.length = 32) {i : Nat} (hi : i < hs.length) : (hs.getD i []).length = 32 := by
  rw [List.getD_eq_getElem?_getD, List.getElem?_eq_getElem hi]; exact hh _ (List.getElem_mem hi)
theorem flat_get : ∀ {hs : List (List UInt8)} (_ : ∀ h ∈ hs, h.length = 32) {i j : Nat} {u : Value}, i < hs.length → ((hs.getD i []).map B8)[j]? = some u → (hs.flatten.map B8)[i * 32 + j]? = some u
  | [], _, _, _, _, hi, _ => absurd hi (by simp)
  | h :: hs, hh, 0, j, u, _, hu => by
    have hu' : (h.map B8)[j]? = some u := hu
    have hj := (List.getElem?_eq_some_iff.1 hu').1
    rw [List.flatten_cons, List.map_append, Nat.zero_mul, Nat.zero_add, List.getElem?_append_left hj]
    exact hu'
  | h :: hs, hh, i + 1, j, u, hi, hu => by
    have hl : (h.map B8).length = 32 := by rw [List.length_map]; exact hh h (by simp)
    rw [List.flatten_cons, List.map_append, List.getElem?_append_right (by omega), hl, show (i + 1) * 32 + j - 32 = i * 32 + j by omega]
    exact flat_get (fun q hq => hh q (by simp [hq])) (by simpa using hi) hu
theorem rdh_nil {w : World} : Rd [] w 32 (.slice none 0 0) ([] : List (List UInt8)).length (([] : List (List UInt8)).flatten.map B8) := ⟨rfl, ⟨_, _, rfl, Nat.le_refl _, by simp [maxLen]⟩, by simp, by simp⟩

/-! lists of hashes, laid flat -/
abbrev H32 (hs : List (List UInt8)) : Prop := ∀ h ∈ hs, h.length = 32
theorem flat_len : ∀ {hs : List (List UInt8)}, H32 hs → (hs.flatten.map B8).length = hs.length * 32
  | [], _ => rfl
  | h :: hs, hh => by
    have h1 := flat_len (hs := hs) fun q hq => hh q (by simp [hq])
    rw [List.length_map] at h1 ⊢
    rw [List.flatten_cons, List.length_append, h1, hh h (by simp), List.length_cons]; omega
theorem flat_set : ∀ {hs : List (List UInt8)} {m : Nat} {l : List UInt8}, H32 hs → m < hs.length →
    (hs.flatten.map B8).take (m * 32) ++ l.map B8 ++ (hs.flatten.map B8).drop (m * 32 + 32) = (hs.set m l).flatten.map B8
  | [], _, _, _, hm => absurd hm (by simp)
  | h :: hs, 0, l, hh, _ => by
    have hl : (h.map B8).length = 32 := by rw [List.length_map]; exact hh h (by simp)
    rw [List.flatten_cons, List.map_append, Nat.zero_mul, List.take_zero, List.nil_append, Nat.zero_add, List.set_cons_zero, List.flatten_cons, List.map_append, ← hl, List.drop_left]
  | h :: hs, m + 1, l, hh, hm => by
    have hl : (h.map B8).length = 32 := by rw [List.length_map]; exact hh h (by simp)
    have ih := flat_set (hs := hs) (m := m) (l := l) (fun q hq => hh q (by simp [hq])) (by simpa using hm)
    rw [List.flatten_cons, List.map_append, List.set_cons_succ, List.flatten_cons, List.map_append, ← ih, show (m + 1) * 32 = 32 + m * 32 by omega, show 32 + m * 32 + 32 = 32 + (m * 32 + 32) by omega, ← hl,
      List.take_length_add_append, List.drop_length_add_append, List.append_assoc, List.append_assoc, List.append_assoc]
theorem hh_set {hs : List (List UInt8)} {m : Nat} {l : List UInt8} (hh : H32 hs) (hl : l.length = 32) : H32 (hs.set m l) := by
  intro q hq
  rcases List.mem_or_eq_of_mem_set hq with h | rfl
  · exact hh q h
  · exact hl
theorem hh_take {hs : List (List UInt8)} {m : Nat} (hh : H32 hs) : H32 (hs.take m) := fun q hq => hh q (List.mem_of_mem_take hq)
theorem flat_getB {hs : List (List UInt8)} (hh : H32 hs) {i j : Nat} (hi : i < hs.length) (hj : j < 32) : (hs.flatten.map B8)[i * 32 + j]? = some (B8 ((hs.getD i []).getD j 0)) :=
  flat_get hh hi (map_get B8 0 (by rw [getD_len hh hi]; exact hj))
theorem flat_setB {hs : List (List UInt8)} (hh : H32 hs) {i j : Nat} {z : UInt8} (hi : i < hs.length) (hj : j < 32) : (hs.flatten.map B8).set (i * 32 + j) (B8 z) = (hs.set i ((hs.getD i []).set j z)).flatten.map B8 := by
  have hl := flat_len hh
  have hg := getD_len hh hi
  rw [← flat_set hh hi]
  apply List.ext_getElem?
  intro q
  have e1 : ((hs.flatten.map B8).take (i * 32)).length = i * 32 := by rw [List.length_take, hl]; omega
  have e2 : (((hs.getD i []).set j z).map B8).length = 32 := by rw [List.length_map, List.length_set, hg]
  by_cases h1 : q < i * 32
  · rw [List.getElem?_set_ne (by omega), List.append_assoc, List.getElem?_append_left (by omega), List.getElem?_take_of_lt h1]
  · by_cases h2 : q < i * 32 + 32
    · rw [List.append_assoc, List.getElem?_append_right (by omega), e1, List.getElem?_append_left (by omega), List.map_set]
      by_cases h3 : q = i * 32 + j
      · subst h3
        rw [List.getElem?_set_self (by omega), Nat.add_sub_cancel_left, List.getElem?_set_self (by rw [List.length_map, hg]; exact hj)]
      · rw [List.getElem?_set_ne (by omega), List.getElem?_set_ne (by omega)]
        obtain ⟨r, rfl⟩ : ∃ r, q = i * 32 + r := ⟨q - i * 32, by omega⟩
        rw [Nat.add_sub_cancel_left]
        have := flat_getB hh (i := i) (j := r) hi (by omega)
        rw [this]
        exact (map_get B8 0 (by rw [hg]; omega)).symm
    · rw [List.getElem?_set_ne (by omega), List.getElem?_append_right (by rw [List.length_append]; omega), List.length_append, e1, e2, List.getElem?_drop]
      congr 1; omega
/-- A hash of one byte, noughts behind. -/
def hq (k : UInt8) : List UInt8 := k :: List.replicate 31 0
theorem hq_len (k : UInt8) : (hq k).length = 32 := by simp [hq]
section
variable {hs : List (List UInt8)} {a b c x : List UInt8}
theorem set3_0 : (hs ++ [a, b, c]).set hs.length x = hs ++ [x, b, c] := by rw [List.set_append_right _ _ (Nat.le_refl _), Nat.sub_self]; rfl
theorem set3_1 : (hs ++ [a, b, c]).set (hs.length + 1) x = hs ++ [a, x, c] := by rw [List.set_append_right _ _ (by omega), Nat.add_sub_cancel_left]; rfl
theorem set3_2 : (hs ++ [a, b, c]).set (hs.length + 2) x = hs ++ [a, b, x] := by rw [List.set_append_right _ _ (by omega), Nat.add_sub_cancel_left]; rfl
theorem get3_0 : (hs ++ [a, b, c]).getD hs.length [] = a := by rw [List.getD_eq_getElem?_getD, List.getElem?_append_right (Nat.le_refl _), Nat.sub_self]; rfl
theorem get3_1 : (hs ++ [a, b, c]).getD (hs.length + 1) [] = b := by rw [List.getD_eq_getElem?_getD, List.getElem?_append_right (by omega), Nat.add_sub_cancel_left]; rfl
theorem get3_2 : (hs ++ [a, b, c]).getD (hs.length + 2) [] = c := by rw [List.getD_eq_getElem?_getD, List.getElem?_append_right (by omega), Nat.add_sub_cancel_left]; rfl
theorem len3 : (hs ++ [a, b, c]).length = hs.length + 3 := by simp
theorem hh3 (hh : H32 hs) (ha : a.length = 32) (hb : b.length = 32) (hc : c.length = 32) : H32 (hs ++ [a, b, c]) := by
  intro q hq
  simp only [List.mem_append, List.mem_cons, List.not_mem_nil, or_false] at hq
  rcases hq with h | rfl | rfl | rfl
  · exact hh q h
  · exact ha
  · exact hb
  · exact hc
theorem get3_l {i : Nat} (h : i < hs.length) : (hs ++ [a, b, c]).getD i [] = hs.getD i [] := by
  rw [List.getD_eq_getElem?_getD, List.getD_eq_getElem?_getD, List.getElem?_append_left h]
theorem getD_set_ne {m i : Nat} (h : m ≠ i) : (hs.set m x).getD i [] = hs.getD i [] := by
  rw [List.getD_eq_getElem?_getD, List.getD_eq_getElem?_getD, List.getElem?_set_ne h]
end

section
variable {P : Program} {w w0 : World} {X Y' : List Nat} {L : List Part} {e s n m k g : Nat} {v u : Value} {cs : List Value} {nn : Nat} {f : Nat → Value} {x y : Operand} {t tt ty : TypeId}
theorem rd_hblk {hs : List (List UInt8)} (H : St w0 X L w) (i : Nat) (hi : L[i]? = some [(g, Rw t (hs.flatten.map B8))]) (hh : H32 hs) (hn : hs.length = n) (hm : n ≤ maxLen) :
    Rd [] w 32 (.slice (some (bs g)) n n) hs.length (hs.flatten.map B8) := by
  have hl := flat_len hh
  have := H.rd (n := n) (s := 32) (cap := n) i hi (by omega) ⟨Nat.le_refl _, hm⟩
  rw [hn]
  rwa [List.take_of_length_le (by omega)] at this
theorem flat_take : ∀ {hs : List (List UInt8)} {m : Nat}, H32 hs → (hs.flatten.map B8).take (m * 32) = (hs.take m).flatten.map B8
  | [], m, _ => by simp
  | h :: hs, 0, _ => by simp
  | h :: hs, m + 1, hh => by
    have hl : (h.map B8).length = 32 := by rw [List.length_map]; exact hh h (by simp)
    have ih := flat_take (hs := hs) (m := m) fun q hq => hh q (by simp [hq])
    rw [List.take_succ_cons, List.flatten_cons, List.flatten_cons, List.map_append, List.map_append, ← ih, show (m + 1) * 32 = 32 + m * 32 by omega, ← hl, List.take_length_add_append]
theorem rdh_pre {hs : List (List UInt8)} (hR : Rd X w 32 v hs.length (hs.flatten.map B8)) (hm : m ≤ hs.length) (hh : H32 hs) : Rd X w 32 (slv 32 0 m v) (hs.take m).length ((hs.take m).flatten.map B8) := by
  have := hR.slv (Nat.zero_le m) hm
  rw [Nat.sub_zero, Nat.zero_mul, List.drop_zero, flat_take hh] at this
  rw [List.length_take, Nat.min_eq_left hm]
  exact this
theorem made_hash {z : Value} {c : Nat} (hz : z.cells = (List.replicate 32 (B8 0)).toArray) : (madeCells z.cells (c * 32)).toList = ((List.replicate c (hq 0)).flatten.map B8) := by
  have e : hq 0 = List.replicate 32 0 := rfl
  rw [e, List.flatten_replicate_replicate, List.map_replicate]
  apply List.ext_getElem
  · simp [madeCells]
  · intro j h1 h2
    have hj : j % 32 < 32 := Nat.mod_lt _ (by omega)
    simp [madeCells, hz, hj]
    exact List.eq_of_mem_replicate (n := 32) (List.getElem_mem _)
/-- 'copy(dst, src)' of elements of s cells, dst over a block of ours from its head on. -/
theorem ow_copyS {dn dc : Nat} {l : List Value} {sT : TypeId} (ht : P.underlying t = some (.slice e)) (hs : Sz P e s) (H : St w0 X ([(g, Rw tt l)] :: L) w)
    (hx : ev nn f x = .slice (some (bs g)) dn dc) (hy : ev nn f y = u) (hsrc : Rd Y' w s u n cs) (h1 : ∀ u ∈ cs, u.oneCell' = true) (hk : k = min n dn) (hfit : k * s ≤ l.length) :
    OW P nn f (.call { callee := .builtin .copy, args := #[x, y], argTypes := #[t, sT] }) ty w (fun v' w' => v' = I (k : Int) ∧ St w0 X ([(g, Rw tt (cs.take (k * s) ++ l.drop (k * s)))] :: L) w') := by
  have hg : w.heap[g]? = some (Rw tt l) := H.get 0 rfl
  have hcl := hsrc.len
  have hks : k * s ≤ n * s := Nat.mul_le_mul_right _ (by omega)
  have hkl : (cs.take (k * s)).length = k * s := by rw [List.length_take, hcl]; omega
  obtain ⟨a, cap, rfl, hnc, -⟩ := hsrc.shape
  have hst := run_storeCells_at P g 0 tt (cs.take (k * s)) 0 l.toArray w hg (by simp [hkl]; omega) (fun u hu => h1 u (List.mem_of_mem_take hu))
  simp only [Nat.add_zero, hkl, Nat.zero_add, List.take_zero, List.nil_append] at hst
  have hfc : (Builtin.firstCells s k (.slice a n cap)).run P w = .ok (cs.take (k * s)).toArray w := by
    by_cases h0 : 0 < cs.length
    · obtain ⟨-, p, n', cap', e⟩ := hsrc.off h0
      injection e with e1 e2 e3
      subst e1
      exact run_firstCells_some w s k p n cap (cs.take (k * s)) hkl (fun j u hu => by
        rw [List.getElem?_take] at hu
        split at hu
        · exact hsrc.cell j u hu
        · cases hu)
    · have hcs : cs = [] := List.eq_nil_of_length_eq_zero (by omega)
      have hk0 : k * s = 0 := by rw [hcs] at hcl; simp at hcl; omega
      subst hcs
      cases a with
      | none => simp [Builtin.firstCells]
      | some p => simp [Builtin.firstCells, loadCells, loadCellsFrom, hk0]
  refine ow_of_y (v := I (k : Int)) (w' := w.setRow g (cs.take (k * s) ++ l.drop (k * s)).toArray) ?_ ⟨rfl, H.setRow⟩
  intro oo hoo hty
  have hmin : Nat.min n dn = k := hk.symm
  have hadd : (bs g) = ⟨g, 0, none⟩ := rfl
  simp [execOp, hoo, resolve, invoke, builtin, hx, hy, Builtin.copy_, run_underlying ht, Builtin.lenOf, run_sizeOf hs, hmin, hfc, hst, goInt]
theorem copy_hash {hs : List (List UInt8)} {z : List UInt8} (hz : z.length = 32) (hh : H32 hs) : (hs.flatten.map B8).take (hs.length * 32) ++ ((List.replicate (hs.length + 3) z).flatten.map B8).drop (hs.length * 32) = (hs ++ [z, z, z]).flatten.map B8 := by
  have hl := flat_len hh
  rw [List.take_of_length_le (by omega), List.flatten_append, List.map_append]
  congr 1
  have e : List.replicate (hs.length + 3) z = List.replicate hs.length z ++ [z, z, z] := by rw [show [z, z, z] = List.replicate 3 z from rfl, List.replicate_append_replicate]
  have hr : ((List.replicate hs.length z).flatten.map B8).length = hs.length * 32 := by
    have := flat_len (hs := List.replicate hs.length z) (fun q hq => by rw [List.eq_of_mem_replicate hq]; exact hz)
    rwa [List.length_replicate] at this
  rw [e, List.flatten_append, List.map_append, ← hr, List.drop_left]
end
theorem fold_set : ∀ (us : List Value) (k : Nat) (cells : Array Value), k + us.length ≤ cells.size →
    ((us.zipIdx k).foldl (fun cs (x : Value × Nat) => cs.setIfInBounds (0 + x.2) x.1) cells).toList = cells.toList.take k ++ us ++ cells.toList.drop (k + us.length)
  | [], k, cells, _ => by simp
  | u :: us, k, cells, h => by
    simp only [List.length_cons] at h
    rw [List.zipIdx_cons, List.foldl_cons, fold_set us (k + 1) _ (by simp; omega)]
    simp only [Nat.zero_add, Array.toList_setIfInBounds, List.length_cons]
    have hk : k < cells.toList.length := by simp; omega
    rw [List.take_set, List.take_add_one, List.getElem?_eq_getElem hk, List.drop_set_of_lt (by omega)]
    have e : (cells.toList.take k ++ (some cells.toList[k]).toList).set k u = cells.toList.take k ++ [u] := by
      rw [List.set_append_right _ _ (by rw [List.length_take]; omega)]
      have : k - (cells.toList.take k).length = 0 := by rw [List.length_take]; omega
      rw [this]; rfl
    rw [e, List.append_assoc, List.append_assoc, List.append_assoc, show k + 1 + us.length = k + (us.length + 1) by omega]; rfl
theorem fill_all {us : List Value} {n : Nat} {cells : Array Value} (hn : us.length = n) (hc : cells.size = n) : Instr.fill (fun i => some (i * n, n)) cells [(0, .agg us.toArray)] = some us.toArray := by
  subst hn
  have h := fold_set us 0 cells (by omega)
  simp only [List.take_zero, List.nil_append, Nat.zero_add] at h
  have h2 : us.toArray.zipIdx.foldl (fun cs (x : Value × Nat) => cs.setIfInBounds (0 + x.2) x.1) cells = us.toArray := by
    rw [← Array.foldl_toList, Array.toList_zipIdx]
    apply Array.ext'
    simp only [Nat.zero_add]
    rw [h, List.drop_of_length_le (by simp; omega), List.append_nil]
  have h3 : (Value.agg us.toArray).cells = us.toArray := rfl
  simp only [Instr.fill, Nat.zero_mul, h3, List.size_toArray, hc, Nat.zero_add]
  rw [if_neg (by simp)]
  refine congrArg some ?_
  simp only [Nat.zero_add] at h2
  exact h2
section
variable {P : Program} {w w0 : World} {X Y' : List Nat} {L : List Part} {e s n m k g : Nat} {v u : Value} {cs : List Value} {nn : Nat} {f : Nat → Value} {x y : Operand} {t tt ty : TypeId} {E : Part}
theorem os_hb {hs : List (List UInt8)} (hh : H32 hs) (hn : hs.length = n) (hm : n ≤ maxLen) : OS 26 32 (.slice (some (bs g)) n n) hs.length (hs.flatten.map B8) [(g, Rw 26 (hs.flatten.map B8))] :=
  .inr ⟨g, n, _, by rw [hn], rfl, by omega, hm, by rw [flat_len hh, hn], by rw [List.take_of_length_le (by rw [flat_len hh]; omega)]⟩
/-- A literal of one hash. -/
theorem ow_lit1 {h : List UInt8} {z : Value} (ht : P.underlying t = some (.slice e)) (hs : Sz P e 32) (hz : Zr P e z) (H : St w0 X L w) (hx : ev nn f x = .agg (h.map B8).toArray) (hl : h.length = 32) :
    OW P nn f (.buildSlice t 1 [(0, x)].toArray) ty w (fun v' w' => ∃ g, v' = .slice (some (bs g)) 1 1 ∧ St w0 X ([(g, Rw e ([h].flatten.map B8))] :: L) w') :=
  (ow_buildSlice (parts := [(0, x)]) (pv := [(0, .agg (h.map B8).toArray)]) (us := h.map B8) ht hs hz H ⟨⟨rfl, hx⟩, trivial⟩ (by omega) (fill_all (by rw [List.length_map, hl]) (by simp))).mono fun _ _ ⟨g, h1, h2⟩ => ⟨g, h1, h2.eq1 (by simp)⟩
theorem ow_lit0 {z : Value} (ht : P.underlying t = some (.slice e)) (hs : Sz P e s) (hz : Zr P e z) (H : St w0 X L w) :
    OW P nn f (.buildSlice t 0 [].toArray) ty w (fun v' w' => ∃ g, v' = .slice (some (bs g)) 0 0 ∧ St w0 X ([(g, Rw e [])] :: L) w') :=
  ow_buildSlice (parts := []) (pv := []) (us := []) ht hs hz H trivial (by simp) (by simp [Instr.fill])
/-- 'append' of hashes onto hashes. -/
theorem ow_appH {hs ks : List (List UInt8)} {z : Value} {tx : TypeId} (ht : P.underlying t = some (.slice 26)) (hsz : Sz P 26 32) (hz : Zr P 26 z) (hb : Bt P 26 32) (hzs : z.cells.size = 32) (htx : P.underlying tx = some (.slice 26))
    (ho : OS 26 32 v hs.length (hs.flatten.map B8) E) (H : St w0 X (E :: L) w) (hx : ev nn f x = v) (hy : ev nn f y = u) (hR : Rd Y' w 32 u ks.length (ks.flatten.map B8)) (hfit : (hs.length + ks.length) * 32 ≤ 140737488355328) :
    OW P nn f (.call { callee := .builtin .append, args := #[x, y], argTypes := #[t, tx] }) ty w (fun v' w' => ∃ E', OS 26 32 v' (hs ++ ks).length ((hs ++ ks).flatten.map B8) E' ∧ St w0 X (E' :: L) w') :=
  (ow_append ht hsz hz hb hzs ho H hx hy (hR.src htx (map_one (F := B8) (fun _ => rfl) _)) hfit (by omega)).mono fun _ _ ⟨E', h1, h2⟩ => ⟨E', by rw [List.length_append, List.flatten_append, List.map_append]; exact h1, h2⟩
end
theorem hh_app {hs ks : List (List UInt8)} (h1 : H32 hs) (h2 : H32 ks) : H32 (hs ++ ks) := fun q hq => (List.mem_append.1 hq).elim (h1 q) (h2 q)
theorem hh_one {h : List UInt8} (h1 : h.length = 32) : H32 [h] := fun q hq => by rw [List.mem_singleton.1 hq]; exact h1
theorem hh_nil : H32 [] := fun q hq => absurd hq (by simp)
end Go.Proofs.Ytdcmbcjkdhdohaa
