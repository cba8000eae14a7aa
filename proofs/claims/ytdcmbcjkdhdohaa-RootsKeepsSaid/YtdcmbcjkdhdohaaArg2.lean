/- Arguments that are structs. -/
import Derived.Test.YtdcmbcjkdhdohaaArg
namespace Go.Proofs.Ytdcmbcjkdhdohaa
open Go Go.RowKit Go.ChangeShapes Go.WideShapes Go.ChangeAt
set_option linter.unusedVariables false
section
variable {H : Type} {enc : TypeId × Value → H} {P : Program} {W : World} {ts : List TypeId} {ds : List (DataW H)}
/-- A slice of bytes in a cell that is read. -/
theorem bytes_cells {t e : TypeId} {fuel : Nat} {c : Value} {x : DataW H × List MemPlace} (hu : P.underlying t = some (.slice e)) (he : P.underlying e = some (.int .u8)) (hc : P.cellsOf e = 1) (hb : P.bytesOf e = 1)
    (hf : DataW.trod enc P W 0 (fun _ => true) true fuel t [c] = some x) (hw : ∀ n ∈ x.1.weights P t, n ≤ reachBytes) : ∃ l : List UInt8, Rd [] W 1 c l.length (l.map B8) ∧ l.length ≤ 140737488351232 := by
  have hcell : c.cells.toList = [c] := by
    rcases open_ints hu he hc hf with ⟨hcs, -⟩ | ⟨y, l, cap, zs, hcs, -⟩
    · simp at hcs; subst hcs; rfl
    · simp at hcs; subst hcs; rfl
  have hv : ∃ a n k, c = .slice a n k := by
    rcases open_ints hu he hc hf with ⟨hcs, -⟩ | ⟨y, l, cap, zs, hcs, -⟩
    · simp at hcs; exact ⟨_, _, _, hcs⟩
    · simp at hcs; exact ⟨_, _, _, hcs⟩
  have h : DataW.Trod enc P W 0 (fun _ => true) true t c x.1 x.2 := ⟨fuel, by rw [hcell]; exact hf⟩
  exact bytes_arg (ts := [t]) (ds := [x.1]) (j := 0) hu he hc hb h hv (by simp only [DataW.weightsEach, List.append_nil, List.all_eq_true, decide_eq_true_eq]; exact hw) rfl rfl
theorem list3 {α : Type} {l : List α} (h : l.length = 3) : ∃ a b c, l = [a, b, c] := by
  match l, h with
  | [a, b, c], _ => exact ⟨a, b, c, rfl⟩
set_option maxRecDepth 100000 in
theorem env_arg {r : Reach} {b0 j : Nat} {v : Value} {d : DataW H} {p : List MemPlace} (hval : Value.okWide Try.prog W r b0 31 v) (h : DataW.Trod enc Try.prog W 0 (fun _ => true) true 31 v d p)
    (hsz : (DataW.weightsEach Try.prog ts ds).all (· ≤ reachBytes) = true) (ht : ts[j]? = some 31) (hd : ds[j]? = some d) :
    ∃ (fr to : Int) (bv : Value) (l : List UInt8), v = .agg ([I fr, I to, bv] : List Value).toArray ∧ Rd [] W 1 bv l.length (l.map B8) ∧ l.length ≤ 140737488351232 := by
  have hu := Try.underlying31
  simp only [Value.okWide, hu] at hval
  obtain ⟨cs, rfl, -, -⟩ := hval
  obtain ⟨fuel, hf⟩ := h
  obtain ⟨xs, n, -, hx, hl, hxl, hi⟩ := DataW.trod_struct hu hf
  have h3 : Try.prog.cellsOf 31 = 3 := by kernel_rfl
  rw [h3] at hl
  have hcs : (Value.agg cs).cells.toList = cs.toList := rfl
  rw [hcs] at hl hi
  obtain ⟨c⟩ := cs
  obtain ⟨c0, c1, c2, rfl⟩ := list3 hl
  have k3 : Try.prog.cellsOf 3 = 1 := by kernel_rfl
  have k23 : Try.prog.cellsOf 23 = 1 := by kernel_rfl
  have f0 := hi 0 _ rfl
  have f1 := hi 1 _ rfl
  have f2 := hi 2 _ rfl
  obtain ⟨x0, x1, x2, rfl⟩ := list3 (show xs.length = 3 from hxl)
  obtain ⟨fr, e0, -, -⟩ := DataW.trod_int Try.underlying3 f0
  obtain ⟨to, e1, -, -⟩ := DataW.trod_int Try.underlying3 f1
  obtain ⟨l, hR, hll⟩ := bytes_cells (c := c2) Try.underlying23 Try.underlying5 (by kernel_rfl) (by kernel_rfl) f2 (fun m hm => by
    have hmem := DataW.weights_mem_each (P := Try.prog) ht hd m (by
      have hd2 : d = .agg [x0.1, x1.1, x2.1] := by simpa using congrArg Prod.fst hx
      rw [hd2]
      simp only [DataW.weights, hu]
      exact DataW.weights_mem_each (j := 2) (t := 23) (d := x2.1) rfl rfl m hm)
    simpa using List.all_eq_true.1 hsz m hmem)
  refine ⟨fr, to, c2, l, ?_, hR, hll⟩
  simp [k3] at e0 e1
  subst e0 e1
  rfl
end
end Go.Proofs.Ytdcmbcjkdhdohaa
