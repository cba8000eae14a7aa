/- Arguments of the laws of roots that hold witnesses. -/
import Derived.Test.YtdcmbcjkdhdohaaArgR
import Derived.Test.YtdcmbcjkdhdohaaRootsW
namespace Go.Proofs.Ytdcmbcjkdhdohaa
open Go Go.RowKit Go.ChangeShapes Go.WideShapes Go.ChangeAt
set_option linter.unusedVariables false
set_option linter.unusedSimpArgs false
section
variable {H : Type} {enc : TypeId × Value → H} {P : Program} {W : World}
theorem getD_range {α : Type} {V : Nat → α} {n i : Nat} {d : α} (h : i < n) : ((List.range n).map V).getD i d = V i := by
  rw [List.getD_eq_getElem?_getD, List.getElem?_map, List.getElem?_range h]; rfl
theorem hashes_bulk {t e b : TypeId} {fuel : Nat} {c : Value} {x : DataW H × List MemPlace} (hu : P.underlying t = some (.slice e)) (he : P.underlying e = some (.array 32 b)) (hb : P.underlying b = some (.int .u8)) (hc : P.cellsOf b = 1) (hn : P.cellsOf e = 32)
    (hf : DataW.trod enc P W 0 (fun _ => true) true fuel t [c] = some x) : ∃ hs : List (List UInt8), H32 hs ∧ Rd [] W 32 c hs.length (hs.flatten.map B8) ∧ hs.length ≤ Rows.uptoBulk x.1 := by
  rcases Go.Deep.open_slice hu hf with ⟨hcs, -⟩ | ⟨a, len, cap, m, n, D, Pl, hcs, -, hl, hm, hmm, rfl, hi⟩
  · simp at hcs
    subst hcs
    exact ⟨[], by simp [H32], ⟨rfl, ⟨_, _, rfl, Nat.le_refl _, by simp [maxLen]⟩, by simp, by simp⟩, by simp⟩
  · simp at hcs
    subst hcs
    simp only [if_true] at hmm
    subst hmm
    have hlen0 := bulk_len ((List.range len).map D)
    rw [List.length_map, List.length_range] at hlen0
    obtain ⟨V, hV⟩ := Go.Deep.choose_lt (α := List UInt8) (n := len) (p := fun i l => l.length = 32 ∧ W.cells? 0 (a.add (i * 32)) 32 = some (l.map B8)) (fun i hil => by
      obtain ⟨cs', h1, h2⟩ := hi i (by omega)
      rw [hn] at h1
      obtain ⟨l, hl32, rfl⟩ := hash_cells he hb hc hn h2
      exact ⟨l, hl32, h1⟩)
    have hH : H32 ((List.range len).map V) := by
      intro q hq
      obtain ⟨i, hi2, rfl⟩ := List.mem_map.1 hq
      exact (hV i (List.mem_range.1 hi2)).1
    have hlen : ((List.range len).map V).length = len := by simp
    have hfl := flat_len hH
    rw [hlen] at hfl
    refine ⟨(List.range len).map V, hH, ⟨by rw [hlen]; exact hfl, ⟨_, _, by rw [hlen], by rw [hlen]; exact hl, hm⟩, fun j u hu2 => ?_, fun _ => ⟨by simp, _, _, _, rfl⟩⟩, ?_⟩
    · have hj := (List.getElem?_eq_some_iff.1 hu2).1
      rw [hfl] at hj
      have hq : j / 32 < len := by omega
      obtain ⟨h1, h2⟩ := hV (j / 32) hq
      have h3 := (World.cells?_some h2).2.2 (j % 32) (Nat.mod_lt _ (by omega))
      have hg := flat_getB hH (i := j / 32) (j := j % 32) (by rw [hlen]; exact hq) (Nat.mod_lt _ (by omega))
      have ej : j / 32 * 32 + j % 32 = j := by omega
      rw [ej] at hg
      rw [hg] at hu2
      obtain rfl := Option.some.inj hu2
      show W.cell? (a.add j) = _
      rw [add_add, ej] at h3
      rw [h3, getD_range hq]
      exact map_get B8 0 (by rw [h1]; exact Nat.mod_lt _ (by omega))
    · rw [hlen]; simp only [Rows.uptoBulk]; omega
theorem list5 {α : Type} {l : List α} (h : l.length = 5) : ∃ a b c d e, l = [a, b, c, d, e] := by
  match l, h with
  | [a, b, c, d, e], _ => exact ⟨a, b, c, d, e, rfl⟩
theorem list2 {α : Type} {l : List α} (h : l.length = 2) : ∃ a b, l = [a, b] := by
  match l, h with
  | [a, b], _ => exact ⟨a, b, rfl⟩
theorem list4 {α : Type} {l : List α} (h : l.length = 4) : ∃ a b c d, l = [a, b, c, d] := by
  match l, h with
  | [a, b, c, d], _ => exact ⟨a, b, c, d, rfl⟩
/-- A leaf: what is read of it. -/
theorem leaf_bulk {fuel : Nat} {cs : List Value} {x : DataW H × List MemPlace} (hf : DataW.trod enc Try.prog W 0 (fun _ => true) true fuel 74 cs = some x) (hb : Rows.uptoBulk x.1 ≤ 1048576) :
    ∃ f : Lf, cs = f.cs ∧ LR [] W f ∧ -9223372036854775808 ≤ f.n ∧ f.n ≤ 9223372036854775807 ∧ f.path.length ≤ 1048576 ∧ f.cell.c.key.length ≤ 1048576 ∧ f.cell.c.l.length ≤ 1048576 := by
  have hu := Try.underlying74
  obtain ⟨xs, n, -, hx, hl, hxl, hi⟩ := DataW.trod_struct hu hf
  have h5 : Try.prog.cellsOf 74 = 5 := by kernel_rfl
  rw [h5] at hl
  obtain ⟨c0, c1, c2, c3, c4, rfl⟩ := list5 hl
  have k3 : Try.prog.cellsOf 3 = 1 := by kernel_rfl
  have k48 : Try.prog.cellsOf 48 = 3 := by kernel_rfl
  have k72 : Try.prog.cellsOf 72 = 1 := by kernel_rfl
  obtain ⟨x0, x1, x2, rfl⟩ := list3 (show xs.length = 3 from hxl)
  have f0 : DataW.trod enc Try.prog W 0 (fun _ => true) true n 3 ((([c0, c1, c2, c3, c4] : List Value).drop 0).take (Try.prog.cellsOf 3)) = some x0 := hi 0 _ rfl
  have f1 : DataW.trod enc Try.prog W 0 (fun _ => true) true n 48 ((([c0, c1, c2, c3, c4] : List Value).drop 1).take (Try.prog.cellsOf 48)) = some x1 := hi 1 _ rfl
  have f2 : DataW.trod enc Try.prog W 0 (fun _ => true) true n 72 ((([c0, c1, c2, c3, c4] : List Value).drop 4).take (Try.prog.cellsOf 72)) = some x2 := hi 2 _ rfl
  simp only [k3, k48, k72, List.drop_zero, List.take_succ_cons, List.take_zero, List.drop_succ_cons] at f0 f1 f2
  obtain ⟨z, e0, -, hw⟩ := DataW.trod_int Try.underlying3 f0
  have hbz := bounds_i64 hw
  obtain ⟨c, e1, hR, q1, q2⟩ := cell_bulk f1
  obtain ⟨hs, hH, hRh, hhl⟩ := hashes_bulk Try.underlying72 Try.underlying26 Try.underlying5 (by kernel_rfl) (by kernel_rfl) f2
  have hx1 : x.1 = .agg [x0.1, x1.1, x2.1] := by rw [hx]; rfl
  have b1 := bulk_part (d := x1.1) (l := [x0.1, x1.1, x2.1]) (by simp)
  have b2 := bulk_part (d := x2.1) (l := [x0.1, x1.1, x2.1]) (by simp)
  rw [hx1] at hb
  simp only [Rows.uptoBulk] at hb
  simp at e0 e1
  obtain ⟨rfl, rfl, rfl⟩ := e1
  subst e0
  refine ⟨⟨z, c, c4, hs⟩, rfl, ⟨⟨hR, show c.c.key.length ≤ 1099511627776 ∧ c.c.l.length ≤ 1099511627776 from ⟨by omega, by omega⟩⟩, hRh, hH, by show hs.length ≤ _; omega⟩, hbz.1, hbz.2, by show hs.length ≤ _; omega, by show c.c.key.length ≤ _; omega, by show c.c.l.length ≤ _; omega⟩
/-- What is known of a witness' leaves beyond their readings. -/
def LsS (ls : List Lf) : Prop := ls.length ≤ 1048576 ∧ ∀ f ∈ ls, -9223372036854775808 ≤ f.n ∧ f.n ≤ 9223372036854775807 ∧ f.path.length ≤ 1048576 ∧ f.cell.c.key.length ≤ 1048576 ∧ f.cell.c.l.length ≤ 1048576
theorem leaves_bulk {t : TypeId} {fuel : Nat} {v : Value} {x : DataW H × List MemPlace} (hu : Try.prog.underlying t = some (.slice 74)) (hf : DataW.trod enc Try.prog W 0 (fun _ => true) true fuel t [v] = some x) (hb : Rows.uptoBulk x.1 ≤ 1048576) :
    ∃ ls : List Lf, LsR [] W v ls ∧ LsS ls := by
  have h5 : Try.prog.cellsOf 74 = 5 := by kernel_rfl
  rcases Go.Deep.open_slice hu hf with ⟨hcs, -⟩ | ⟨a, len, cap, m, n, D, Pl, hcs, -, hl, hm, hmm, rfl, hi⟩
  · simp at hcs
    subst hcs
    exact ⟨[], ⟨⟨rfl, ⟨_, _, rfl, Nat.le_refl _, by simp [maxLen]⟩, by simp, by simp⟩, by simp, by simp⟩, by simp [LsS]⟩
  · simp at hcs
    subst hcs
    simp only [if_true] at hmm
    subst hmm
    have hlen0 := bulk_len ((List.range len).map D)
    simp only [Rows.uptoBulk] at hb
    rw [List.length_map, List.length_range] at hlen0
    haveI : Inhabited Lf := ⟨lf0⟩
    obtain ⟨V, hV⟩ := Go.Deep.choose_lt (α := Lf) (n := len) (p := fun i f => W.cells? 0 (a.add (i * 5)) 5 = some f.cs ∧ LR [] W f ∧ -9223372036854775808 ≤ f.n ∧ f.n ≤ 9223372036854775807 ∧ f.path.length ≤ 1048576 ∧ f.cell.c.key.length ≤ 1048576 ∧ f.cell.c.l.length ≤ 1048576) (fun i hil => by
      obtain ⟨cs', h1, h2⟩ := hi i (by omega)
      rw [h5] at h1
      have := bulk_part (d := D i) (l := (List.range len).map D) (List.mem_map.2 ⟨i, List.mem_range.2 hil, rfl⟩)
      obtain ⟨f, rfl, hR, q⟩ := leaf_bulk h2 (by show Rows.uptoBulk (D i) ≤ _; omega)
      exact ⟨f, h1, hR, q⟩)
    have hlen : ((List.range len).map V).length = len := by simp
    have hfl := flat5_len ((List.range len).map V)
    rw [hlen] at hfl
    have hmem : ∀ f ∈ (List.range len).map V, LR [] W f ∧ -9223372036854775808 ≤ f.n ∧ f.n ≤ 9223372036854775807 ∧ f.path.length ≤ 1048576 ∧ f.cell.c.key.length ≤ 1048576 ∧ f.cell.c.l.length ≤ 1048576 := by
      intro c hc
      obtain ⟨i, hi2, rfl⟩ := List.mem_map.1 hc
      exact (hV i (List.mem_range.1 hi2)).2
    refine ⟨(List.range len).map V, ⟨⟨by rw [hlen]; exact hfl, ⟨_, _, by rw [hlen], by rw [hlen]; exact hl, hm⟩, fun j u hu2 => ?_, fun _ => ⟨by simp, _, _, _, rfl⟩⟩, fun c hc => (hmem c hc).1, by rw [hlen]; omega⟩, by rw [hlen]; omega, fun c hc => (hmem c hc).2⟩
    have hj := (List.getElem?_eq_some_iff.1 hu2).1
    rw [hfl] at hj
    have hq : j / 5 < len := by omega
    obtain ⟨h1, -⟩ := hV (j / 5) hq
    have h4 := (World.cells?_some h1).2.2 (j % 5) (Nat.mod_lt _ (by omega))
    have ej : j / 5 * 5 + j % 5 = j := by omega
    rw [add_add, ej] at h4
    show W.cell? (a.add j) = _
    rw [h4]
    have hgd : ((List.range len).map V).getD (j / 5) lf0 = V (j / 5) := by
      rw [List.getD_eq_getElem?_getD, List.getElem?_map, List.getElem?_range hq]; rfl
    have hjl : j % 5 < (V (j / 5)).cs.length := Nat.mod_lt _ (by omega)
    have hg := flat5_get (ls := (List.range len).map V) (i := j / 5) (j := j % 5) (d := lf0) (u := (V (j / 5)).cs[j % 5]) (by rw [hlen]; exact hq) (by rw [hgd]; exact List.getElem?_eq_getElem hjl)
    rw [ej, hu2] at hg
    rw [List.getElem?_eq_getElem hjl, Option.some.inj hg]
/-- A witness: how many cells, its leaves. -/
theorem wit_bulk {fuel : Nat} {cs : List Value} {x : DataW H × List MemPlace} (hf : DataW.trod enc Try.prog W 0 (fun _ => true) true fuel 41 cs = some x) (hb : Rows.uptoBulk x.1 ≤ 1048576) :
    ∃ (z : Int) (lv : Value) (ls : List Lf), cs = [I z, lv] ∧ -9223372036854775808 ≤ z ∧ z ≤ 9223372036854775807 ∧ LsR [] W lv ls ∧ LsS ls := by
  have hu := Try.underlying41
  obtain ⟨xs, n, -, hx, hl, hxl, hi⟩ := DataW.trod_struct hu hf
  have h2 : Try.prog.cellsOf 41 = 2 := by kernel_rfl
  rw [h2] at hl
  obtain ⟨c0, c1, rfl⟩ := list2 hl
  have k3 : Try.prog.cellsOf 3 = 1 := by kernel_rfl
  have k39 : Try.prog.cellsOf 39 = 1 := by kernel_rfl
  obtain ⟨x0, x1, rfl⟩ := list2 (show xs.length = 2 from hxl)
  have f0 : DataW.trod enc Try.prog W 0 (fun _ => true) true n 3 ((([c0, c1] : List Value).drop 0).take (Try.prog.cellsOf 3)) = some x0 := hi 0 _ rfl
  have f1 : DataW.trod enc Try.prog W 0 (fun _ => true) true n 39 ((([c0, c1] : List Value).drop 1).take (Try.prog.cellsOf 39)) = some x1 := hi 1 _ rfl
  simp only [k3, k39, List.drop_zero, List.take_succ_cons, List.take_zero, List.drop_succ_cons] at f0 f1
  obtain ⟨z, e0, -, hw⟩ := DataW.trod_int Try.underlying3 f0
  have hbz := bounds_i64 hw
  have hx1 : x.1 = .agg [x0.1, x1.1] := by rw [hx]; rfl
  have b1 := bulk_part (d := x1.1) (l := [x0.1, x1.1]) (by simp)
  rw [hx1] at hb
  simp only [Rows.uptoBulk] at hb
  obtain ⟨ls, hL, hS⟩ := leaves_bulk Try.underlying39 f1 (by omega)
  simp at e0
  subst e0
  exact ⟨z, c1, ls, rfl, hbz.1, hbz.2, hL, hS⟩
/-- A string's bytes. -/
theorem str_bulk {t : TypeId} {fuel : Nat} {c : Value} {x : DataW H × List MemPlace} (hu : P.underlying t = some .string) (hf : DataW.trod enc P W 0 (fun _ => true) true fuel t [c] = some x) : ∃ l : List UInt8, c = .string (bst l) ∧ l.length ≤ Rows.uptoBulk x.1 := by
  cases fuel with
  | zero => simp [DataW.trod] at hf
  | succ n =>
    simp only [DataW.trod, hu] at hf
    cases c <;> simp at hf
    rename_i s
    refine ⟨s.data.toList, rfl, ?_⟩
    rw [← hf.2]
    simp only [Rows.uptoBulk]; omega
set_option maxRecDepth 100000 in
/-- What the law RootsChecks is handed. -/
theorem held_bulk {r : Reach} {b0 : Nat} {v : Value} {d : DataW H} {p : List MemPlace} (hval : Value.okWide Try.prog W r b0 95 v) (h : DataW.Trod enc Try.prog W 0 (fun _ => true) true 95 v d p) (hb : Rows.uptoBulk d ≤ 1048576) :
    ∃ (root : List UInt8) (kind : Int) (key : List UInt8) (n : Int) (lv : Value) (ls : List Lf), v = .agg (root.map B8 ++ [I kind, .string (bst key), I n, lv]).toArray ∧ root.length = 32 ∧ -9223372036854775808 ≤ n ∧ n ≤ 9223372036854775807 ∧ key.length ≤ 1048576 ∧ LsR [] W lv ls ∧ LsS ls := by
  have hu := Try.underlying95
  simp only [Value.okWide, hu] at hval
  obtain ⟨cs, rfl, -, -⟩ := hval
  obtain ⟨fuel, hf⟩ := h
  obtain ⟨xs, n, -, hx, hl, hxl, hi⟩ := DataW.trod_struct hu hf
  have h3 : Try.prog.cellsOf 95 = 36 := by kernel_rfl
  rw [h3] at hl
  have hcs : (Value.agg cs).cells.toList = cs.toList := rfl
  rw [hcs] at hl hi
  obtain ⟨c⟩ := cs
  have hl' : c.length = 36 := hl
  have k26 : Try.prog.cellsOf 26 = 32 := by kernel_rfl
  have k3 : Try.prog.cellsOf 3 = 1 := by kernel_rfl
  have k9 : Try.prog.cellsOf 9 = 1 := by kernel_rfl
  have k41 : Try.prog.cellsOf 41 = 2 := by kernel_rfl
  obtain ⟨a, b, rfl, ha⟩ : ∃ a b, c = a ++ b ∧ a.length = 32 := ⟨c.take 32, c.drop 32, (List.take_append_drop 32 c).symm, by rw [List.length_take]; omega⟩
  have hbl : b.length = 4 := by rw [List.length_append] at hl'; omega
  obtain ⟨c0, c1, c2, c3, rfl⟩ := list4 hbl
  obtain ⟨x0, x1, x2, x3, rfl⟩ := list4 (show xs.length = 4 from hxl)
  have f0 : DataW.trod enc Try.prog W 0 (fun _ => true) true n 26 (((a ++ [c0, c1, c2, c3] : List Value).drop 0).take (Try.prog.cellsOf 26)) = some x0 := hi 0 _ rfl
  have f1 : DataW.trod enc Try.prog W 0 (fun _ => true) true n 3 (((a ++ [c0, c1, c2, c3] : List Value).drop 32).take (Try.prog.cellsOf 3)) = some x1 := hi 1 _ rfl
  have f2 : DataW.trod enc Try.prog W 0 (fun _ => true) true n 9 (((a ++ [c0, c1, c2, c3] : List Value).drop 33).take (Try.prog.cellsOf 9)) = some x2 := hi 2 _ rfl
  have f3 : DataW.trod enc Try.prog W 0 (fun _ => true) true n 41 (((a ++ [c0, c1, c2, c3] : List Value).drop 34).take (Try.prog.cellsOf 41)) = some x3 := hi 3 _ rfl
  have d32 : (a ++ [c0, c1, c2, c3] : List Value).drop 32 = [c0, c1, c2, c3] := by rw [← ha, List.drop_left]
  have d33 : (a ++ [c0, c1, c2, c3] : List Value).drop 33 = [c1, c2, c3] := by rw [show 33 = 32 + 1 from rfl, ← List.drop_drop, d32]; rfl
  have d34 : (a ++ [c0, c1, c2, c3] : List Value).drop 34 = [c2, c3] := by rw [show 34 = 32 + 2 from rfl, ← List.drop_drop, d32]; rfl
  have t32 : (a ++ [c0, c1, c2, c3] : List Value).take 32 = a := by rw [← ha, List.take_left]
  rw [List.drop_zero, k26, t32] at f0
  rw [d32, k3] at f1
  rw [d33, k9] at f2
  rw [d34, k41] at f3
  simp only [List.take_succ_cons, List.take_zero] at f1 f2 f3
  obtain ⟨l, hl32, e0⟩ := hash_cells Try.underlying26 Try.underlying5 (by kernel_rfl) (by kernel_rfl) f0
  obtain ⟨z, e1, -, -⟩ := DataW.trod_int Try.underlying3 f1
  obtain ⟨key, e2, hkl⟩ := str_bulk Try.underlying9 f2
  have hx1 : d = .agg [x0.1, x1.1, x2.1, x3.1] := by simpa using congrArg Prod.fst hx
  have b1 := bulk_part (d := x2.1) (l := [x0.1, x1.1, x2.1, x3.1]) (by simp)
  have b2 := bulk_part (d := x3.1) (l := [x0.1, x1.1, x2.1, x3.1]) (by simp)
  rw [hx1] at hb
  simp only [Rows.uptoBulk] at hb
  obtain ⟨n', lv, ls, e3, hn1, hn2, hL, hS⟩ := wit_bulk f3 (by omega)
  simp at e1 e3
  obtain ⟨rfl, rfl⟩ := e3
  subst e0 e1 e2
  exact ⟨l, z, key, n', _, ls, rfl, hl32, hn1, hn2, by omega, hL, hS⟩
end
end Go.Proofs.Ytdcmbcjkdhdohaa
