/- Literals of slices of hashes; slices of hashes that grow. -/
import Derived.Test.YtdcmbcjkdhdohaaHashS
namespace Go.Proofs.Ytdcmbcjkdhdohaa
open Go Go.RowKit
set_option linter.unusedSimpArgs false
set_option linter.unusedVariables false
theorem fold_set : ∀ (us : List Value) (k : Nat) (cells : Array Value), k + us.length ≤ cells.size →
    ((us.zipIdx k).foldl (fun cs (x : Value × Nat) => cs.setIfInBounds (0 + x.2) x.1) cells).toList = cells.toList.take k ++ us ++ cells.toList.drop (k + us.length)
  | [], k, cells, _ => by simp
  | u :: us, k, cells, h => by
    simp only [List.length_cons] at h
    rw [List.zipIdx_cons, List.foldl_cons, fold_set us (k + 1) _ (by simp; omega)]
    simp only [Nat.zero_add, Array.toList_setIfInBounds, List.length_cons]
    have hk : k < cells.toList.length := by simp; omega
    rw [List.take_set, List.take_add_one, List.getElem?_eq_getElem hk, List.drop_set_of_lt (by omega)]
    have e : (cells.toList.take k ++ (some cells.toList[k]).toList).set k u = cells.toList.take k ++ [u] := by
      rw [List.set_append_right _ _ (by rw [List.length_take]; omega)]
      have : k - (cells.toList.take k).length = 0 := by rw [List.length_take]; omega
      rw [this]; rfl
    rw [e, List.append_assoc, List.append_assoc, List.append_assoc, show k + 1 + us.length = k + (us.length + 1) by omega]; rfl
theorem fill_all {us : List Value} {n : Nat} {cells : Array Value} (hn : us.length = n) (hc : cells.size = n) : Instr.fill (fun i => some (i * n, n)) cells [(0, .agg us.toArray)] = some us.toArray := by
  subst hn
  have h := fold_set us 0 cells (by omega)
  simp only [List.take_zero, List.nil_append, Nat.zero_add] at h
  have h2 : us.toArray.zipIdx.foldl (fun cs (x : Value × Nat) => cs.setIfInBounds (0 + x.2) x.1) cells = us.toArray := by
    rw [← Array.foldl_toList, Array.toList_zipIdx]
    apply Array.ext'
    simp only [Nat.zero_add]
    rw [h, List.drop_of_length_le (by simp; omega), List.append_nil]
  have h3 : (Value.agg us.toArray).cells = us.toArray := rfl
  simp only [Instr.fill, Nat.zero_mul, h3, List.size_toArray, hc, Nat.zero_add]
  rw [if_neg (by simp)]
  refine congrArg some ?_
  simp only [Nat.zero_add] at h2
  exact h2
section
variable {P : Program} {w w0 : World} {X Y' : List Nat} {L : List Part} {e s n m k g : Nat} {v u : Value} {cs : List Value} {nn : Nat} {f : Nat → Value} {x y : Operand} {t tt ty : TypeId} {E : Part}
theorem os_hb {hs : List (List UInt8)} (hh : H32 hs) (hn : hs.length = n) (hm : n ≤ maxLen) : OS 26 32 (.slice (some (bs g)) n n) hs.length (hs.flatten.map B8) [(g, Rw 26 (hs.flatten.map B8))] :=
  .inr ⟨g, n, _, by rw [hn], rfl, by omega, hm, by rw [flat_len hh, hn], by rw [List.take_of_length_le (by rw [flat_len hh]; omega)]⟩
/-- A literal of one hash. -/
theorem ow_lit1 {h : List UInt8} {z : Value} (ht : P.underlying t = some (.slice e)) (hs : Sz P e 32) (hz : Zr P e z) (H : St w0 X L w) (hx : ev nn f x = .agg (h.map B8).toArray) (hl : h.length = 32) :
    OW P nn f (.buildSlice t 1 [(0, x)].toArray) ty w (fun v' w' => ∃ g, v' = .slice (some (bs g)) 1 1 ∧ St w0 X ([(g, Rw e ([h].flatten.map B8))] :: L) w') :=
  (ow_buildSlice (parts := [(0, x)]) (pv := [(0, .agg (h.map B8).toArray)]) (us := h.map B8) ht hs hz H ⟨⟨rfl, hx⟩, trivial⟩ (by omega) (fill_all (by rw [List.length_map, hl]) (by simp))).mono fun _ _ ⟨g, h1, h2⟩ => ⟨g, h1, h2.eq1 (by simp)⟩
theorem ow_lit0 {z : Value} (ht : P.underlying t = some (.slice e)) (hs : Sz P e s) (hz : Zr P e z) (H : St w0 X L w) :
    OW P nn f (.buildSlice t 0 [].toArray) ty w (fun v' w' => ∃ g, v' = .slice (some (bs g)) 0 0 ∧ St w0 X ([(g, Rw e [])] :: L) w') :=
  ow_buildSlice (parts := []) (pv := []) (us := []) ht hs hz H trivial (by simp) (by simp [Instr.fill])
/-- 'append' of hashes onto hashes. -/
theorem ow_appH {hs ks : List (List UInt8)} {z : Value} {tx : TypeId} (ht : P.underlying t = some (.slice 26)) (hsz : Sz P 26 32) (hz : Zr P 26 z) (hb : Bt P 26 32) (hzs : z.cells.size = 32) (htx : P.underlying tx = some (.slice 26))
    (ho : OS 26 32 v hs.length (hs.flatten.map B8) E) (H : St w0 X (E :: L) w) (hx : ev nn f x = v) (hy : ev nn f y = u) (hR : Rd Y' w 32 u ks.length (ks.flatten.map B8)) (hfit : (hs.length + ks.length) * 32 ≤ 140737488355328) :
    OW P nn f (.call { callee := .builtin .append, args := #[x, y], argTypes := #[t, tx] }) ty w (fun v' w' => ∃ E', OS 26 32 v' (hs ++ ks).length ((hs ++ ks).flatten.map B8) E' ∧ St w0 X (E' :: L) w') :=
  (ow_append ht hsz hz hb hzs ho H hx hy (hR.src htx (map_one (F := B8) (fun _ => rfl) _)) hfit (by omega)).mono fun _ _ ⟨E', h1, h2⟩ => ⟨E', by rw [List.length_append, List.flatten_append, List.map_append]; exact h1, h2⟩
end
theorem hh_app {hs ks : List (List UInt8)} (h1 : H32 hs) (h2 : H32 ks) : H32 (hs ++ ks) := fun q hq => (List.mem_append.1 hq).elim (h1 q) (h2 q)
theorem hh_one {h : List UInt8} (h1 : h.length = 32) : H32 [h] := fun q hq => by rw [List.mem_singleton.1 hq]; exact h1
theorem hh_nil : H32 [] := fun q hq => absurd hq (by simp)
end Go.Proofs.Ytdcmbcjkdhdohaa
