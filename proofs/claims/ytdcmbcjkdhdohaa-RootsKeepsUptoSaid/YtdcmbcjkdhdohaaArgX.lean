/- The argument of the laws RootsTells, RootsTrue, RootsKeeps. -/
import Derived.Test.YtdcmbcjkdhdohaaArgW
namespace Go.Proofs.Ytdcmbcjkdhdohaa
open Go Go.RowKit Go.ChangeShapes Go.WideShapes Go.ChangeAt
set_option linter.unusedVariables false
set_option linter.unusedSimpArgs false
section
variable {H : Type} {enc : TypeId × Value → H} {P : Program} {W : World}
set_option maxRecDepth 100000 in
theorem asked_bulk {r : Reach} {b0 : Nat} {v : Value} {d : DataW H} {p : List MemPlace} (hval : Value.okWide Try.prog W r b0 43 v) (h : DataW.Trod enc Try.prog W 0 (fun _ => true) true 43 v d p) (hb : Rows.uptoBulk d ≤ 1048576) :
    ∃ (v0 : Value) (cs : List Cl) (kind : Int) (key : List UInt8) (n : Int) (lv : Value) (ls : List Lf), v = .agg ([v0, I kind, .string (bst key), I n, lv] : List Value).toArray ∧ CsR [] W v0 cs ∧ cs.length ≤ 1048576 ∧ (∀ c ∈ cs, c.c.key.length ≤ 1048576 ∧ c.c.l.length ≤ 1048576) ∧
      -9223372036854775808 ≤ kind ∧ kind ≤ 9223372036854775807 ∧ key.length ≤ 1048576 ∧ -9223372036854775808 ≤ n ∧ n ≤ 9223372036854775807 ∧ LsR [] W lv ls ∧ LsS ls := by
  have hu := Try.underlying43
  simp only [Value.okWide, hu] at hval
  obtain ⟨cs, rfl, -, -⟩ := hval
  obtain ⟨fuel, hf⟩ := h
  obtain ⟨xs, n, -, hx, hl, hxl, hi⟩ := DataW.trod_struct hu hf
  have h3 : Try.prog.cellsOf 43 = 5 := by kernel_rfl
  rw [h3] at hl
  have hcs : (Value.agg cs).cells.toList = cs.toList := rfl
  rw [hcs] at hl hi
  obtain ⟨c⟩ := cs
  have k38 : Try.prog.cellsOf 38 = 1 := by kernel_rfl
  have k3 : Try.prog.cellsOf 3 = 1 := by kernel_rfl
  have k9 : Try.prog.cellsOf 9 = 1 := by kernel_rfl
  have k41 : Try.prog.cellsOf 41 = 2 := by kernel_rfl
  obtain ⟨c0, c1, c2, c3, c4, rfl⟩ := list5 (show c.length = 5 from hl)
  obtain ⟨x0, x1, x2, x3, rfl⟩ := list4 (show xs.length = 4 from hxl)
  have f0 : DataW.trod enc Try.prog W 0 (fun _ => true) true n 38 ((([c0, c1, c2, c3, c4] : List Value).drop 0).take (Try.prog.cellsOf 38)) = some x0 := hi 0 _ rfl
  have f1 : DataW.trod enc Try.prog W 0 (fun _ => true) true n 3 ((([c0, c1, c2, c3, c4] : List Value).drop 1).take (Try.prog.cellsOf 3)) = some x1 := hi 1 _ rfl
  have f2 : DataW.trod enc Try.prog W 0 (fun _ => true) true n 9 ((([c0, c1, c2, c3, c4] : List Value).drop 2).take (Try.prog.cellsOf 9)) = some x2 := hi 2 _ rfl
  have f3 : DataW.trod enc Try.prog W 0 (fun _ => true) true n 41 ((([c0, c1, c2, c3, c4] : List Value).drop 3).take (Try.prog.cellsOf 41)) = some x3 := hi 3 _ rfl
  simp only [k38, k3, k9, k41, List.drop_zero, List.take_succ_cons, List.take_zero, List.drop_succ_cons] at f0 f1 f2 f3
  have hx1 : d = .agg [x0.1, x1.1, x2.1, x3.1] := by simpa using congrArg Prod.fst hx
  have b0 := bulk_part (d := x0.1) (l := [x0.1, x1.1, x2.1, x3.1]) (by simp)
  have b1 := bulk_part (d := x2.1) (l := [x0.1, x1.1, x2.1, x3.1]) (by simp)
  have b2 := bulk_part (d := x3.1) (l := [x0.1, x1.1, x2.1, x3.1]) (by simp)
  rw [hx1] at hb
  simp only [Rows.uptoBulk] at hb
  obtain ⟨cs, hC, hn, hs⟩ := cells_bulk Try.underlying38 f0 (by omega)
  obtain ⟨z, e1, -, hw⟩ := DataW.trod_int Try.underlying3 f1
  have hbz := bounds_i64 hw
  obtain ⟨key, e2, hkl⟩ := str_bulk Try.underlying9 f2
  obtain ⟨n', lv, ls, e3, hn1, hn2, hL, hS⟩ := wit_bulk f3 (by omega)
  simp at e1 e3
  obtain ⟨rfl, rfl⟩ := e3
  subst e1 e2
  exact ⟨c0, cs, z, key, n', _, ls, rfl, hC, hn, hs, hbz.1, hbz.2, by omega, hn1, hn2, hL, hS⟩
end
end Go.Proofs.Ytdcmbcjkdhdohaa
