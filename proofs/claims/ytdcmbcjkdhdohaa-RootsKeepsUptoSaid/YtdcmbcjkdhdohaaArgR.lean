/- Arguments of the laws of roots: cells, slices of cells; how long they are, by the bulk. -/
import Derived.Test.YtdcmbcjkdhdohaaArg2
import Derived.Test.YtdcmbcjkdhdohaaRootsL
import Derived.Deep.Slices
import Derived.JoinedCond
import Derived.Deep.CondSized
namespace Go.Proofs.Ytdcmbcjkdhdohaa
open Go Go.RowKit Go.ChangeShapes Go.WideShapes Go.ChangeAt
set_option linter.unusedVariables false
set_option linter.unusedSimpArgs false
section
variable {H : Type} {enc : TypeId × Value → H} {P : Program} {W : World}
theorem bulk_one (d : DataW H) : 1 ≤ Rows.uptoBulk d := by
  cases d with
  | lit l => cases l <;> simp [Rows.uptoBulk]
  | nil => simp [Rows.uptoBulk]
  | ptr d => simp [Rows.uptoBulk]
  | slice elems spare => simp [Rows.uptoBulk]
  | agg parts => simp [Rows.uptoBulk]
  | iface t d => simp [Rows.uptoBulk]
  | map entries => simp [Rows.uptoBulk]
  | held h => simp [Rows.uptoBulk]
theorem bulk_part {d : DataW H} {l : List (DataW H)} (h : d ∈ l) : Rows.uptoBulk d ≤ Rows.uptoBulkAll l := by
  induction l with
  | nil => cases h
  | cons x r ih =>
    simp only [Rows.uptoBulkAll]
    rcases List.mem_cons.1 h with e | e
    · subst e; omega
    · have := ih e; omega
theorem bulk_len (l : List (DataW H)) : l.length ≤ Rows.uptoBulkAll l := by
  induction l with
  | nil => simp [Rows.uptoBulkAll]
  | cons x r ih => have := bulk_one x; simp only [Rows.uptoBulkAll, List.length_cons]; omega
/-- A slice of bytes in a cell that is read. -/
theorem bytes_bulk {t e : TypeId} {fuel : Nat} {c : Value} {x : DataW H × List MemPlace} (hu : P.underlying t = some (.slice e)) (he : P.underlying e = some (.int .u8)) (hc : P.cellsOf e = 1)
    (hf : DataW.trod enc P W 0 (fun _ => true) true fuel t [c] = some x) : ∃ l : List UInt8, Rd [] W 1 c l.length (l.map B8) ∧ l.length ≤ Rows.uptoBulk x.1 := by
  rcases open_ints hu he hc hf with ⟨hcs, rfl⟩ | ⟨y, l, cap, zs, hcs, _, hl, hm, hz, hx, hcell, hwz⟩
  · simp at hcs
    subst hcs
    exact ⟨[], ⟨rfl, ⟨_, _, rfl, Nat.le_refl _, by simp [maxLen]⟩, by simp, by simp⟩, by simp⟩
  · simp at hcs
    subst hcs
    simp only [if_true] at hz
    subst hx
    have hlen : (by8 (zs.take l)).length = l := by simp [by8]; omega
    refine ⟨by8 (zs.take l), ⟨by simp, ⟨_, _, by rw [hlen], by omega, hm⟩, fun j u hu => ?_, fun _ => ⟨by simp, _, _, _, rfl⟩⟩, ?_⟩
    · have hj : j < l := by
        have := (List.getElem?_eq_some_iff.1 hu).1
        simp [by8] at this
        omega
      have hj2 : j < zs.length := by omega
      have := hcell j hj2
      show W.cell? (y.add j) = some u
      rw [this, by8_at (hwz _ (by rw [List.getD_eq_getElem?_getD, List.getElem?_eq_getElem hj2]; exact List.getElem_mem hj2))]
      simp only [by8, List.getElem?_map, List.getElem?_take_of_lt hj, List.getElem?_eq_getElem hj2, Option.map_some] at hu
      rw [List.getD_eq_getElem?_getD, List.getElem?_eq_getElem hj2]
      exact hu
    · rw [hlen]
      have := bulk_len (lits .u8 (zs.take l) : List (DataW H))
      simp only [lits, List.length_map, List.length_take] at this
      simp only [Rows.uptoBulk]
      simp only [lits] at this ⊢
      omega
/-- A cell: what is read of it. -/
theorem cell_bulk {fuel : Nat} {cs : List Value} {x : DataW H × List MemPlace} (hf : DataW.trod enc Try.prog W 0 (fun _ => true) true fuel 48 cs = some x) :
    ∃ c : Cl, cs = c.cs ∧ Rd [] W 1 c.v c.c.l.length (c.c.l.map B8) ∧ c.c.key.length ≤ Rows.uptoBulk x.1 ∧ c.c.l.length ≤ Rows.uptoBulk x.1 := by
  have hu := Try.underlying48
  obtain ⟨xs, n, -, hx, hl, hxl, hi⟩ := DataW.trod_struct hu hf
  have h3 : Try.prog.cellsOf 48 = 3 := by kernel_rfl
  rw [h3] at hl
  obtain ⟨c0, c1, c2, rfl⟩ := list3 hl
  have k3 : Try.prog.cellsOf 3 = 1 := by kernel_rfl
  have k9 : Try.prog.cellsOf 9 = 1 := by kernel_rfl
  have k23 : Try.prog.cellsOf 23 = 1 := by kernel_rfl
  obtain ⟨x0, x1, x2, rfl⟩ := list3 (show xs.length = 3 from hxl)
  have f0 : DataW.trod enc Try.prog W 0 (fun _ => true) true n 3 ((([c0, c1, c2] : List Value).drop 0).take (Try.prog.cellsOf 3)) = some x0 := hi 0 _ rfl
  have f1 : DataW.trod enc Try.prog W 0 (fun _ => true) true n 9 ((([c0, c1, c2] : List Value).drop 1).take (Try.prog.cellsOf 9)) = some x1 := hi 1 _ rfl
  have f2 : DataW.trod enc Try.prog W 0 (fun _ => true) true n 23 ((([c0, c1, c2] : List Value).drop 2).take (Try.prog.cellsOf 23)) = some x2 := hi 2 _ rfl
  simp only [k3, k9, k23, List.drop_zero, List.take_succ_cons, List.take_zero, List.drop_succ_cons] at f0 f1 f2
  obtain ⟨z, e0, -, -⟩ := DataW.trod_int Try.underlying3 f0
  obtain ⟨s, e1, q1⟩ : ∃ s : ByteArray, c1 = .string s ∧ x1.1 = .lit (.string s.data.toList) := by
    cases n with
    | zero => simp [DataW.trod] at f1
    | succ n =>
      simp only [DataW.trod, Try.underlying9] at f1
      cases c1 <;> simp at f1
      rename_i s
      exact ⟨s, rfl, by rw [← f1.2]⟩
  obtain ⟨l, hR, hll⟩ := bytes_bulk Try.underlying23 Try.underlying5 (by kernel_rfl) f2
  have hx1 : x.1 = .agg [x0.1, x1.1, x2.1] := by rw [hx]; rfl
  have b1 := bulk_part (d := x1.1) (l := [x0.1, x1.1, x2.1]) (by simp)
  have b2 := bulk_part (d := x2.1) (l := [x0.1, x1.1, x2.1]) (by simp)
  rw [q1] at b1
  simp only [Rows.uptoBulk] at b1
  refine ⟨⟨⟨z, s.data.toList, l⟩, c2⟩, ?_, hR, ?_, ?_⟩
  · simp at e0
    subst e0 e1
    rfl
  · rw [hx1]; simp only [Rows.uptoBulk]; rw [q1]; show s.data.toList.length ≤ _; omega
  · rw [hx1]; simp only [Rows.uptoBulk]; show l.length ≤ _; omega
/-- A slice of cells. -/
theorem cells_bulk {t : TypeId} {fuel : Nat} {v : Value} {x : DataW H × List MemPlace} (hu : Try.prog.underlying t = some (.slice 48)) (hf : DataW.trod enc Try.prog W 0 (fun _ => true) true fuel t [v] = some x) (hb : Rows.uptoBulk x.1 ≤ 1048576) :
    ∃ cs : List Cl, CsR [] W v cs ∧ cs.length ≤ 1048576 ∧ ∀ c ∈ cs, c.c.key.length ≤ 1048576 ∧ c.c.l.length ≤ 1048576 := by
  have h3 : Try.prog.cellsOf 48 = 3 := by kernel_rfl
  rcases Go.Deep.open_slice hu hf with ⟨hcs, -⟩ | ⟨a, len, cap, m, n, D, Pl, hcs, -, hl, hm, hmm, rfl, hi⟩
  · simp at hcs
    subst hcs
    exact ⟨[], ⟨⟨rfl, ⟨_, _, rfl, Nat.le_refl _, by simp [maxLen]⟩, by simp, by simp⟩, by simp, by simp⟩, by simp, by simp⟩
  · simp at hcs
    subst hcs
    simp only [if_true] at hmm
    subst hmm
    have hlen0 := bulk_len ((List.range len).map D)
    simp only [Rows.uptoBulk] at hb
    rw [List.length_map, List.length_range] at hlen0
    haveI : Inhabited Cl := ⟨c0⟩
    obtain ⟨V, hV⟩ := Go.Deep.choose_lt (α := Cl) (n := len) (p := fun i c => W.cells? 0 (a.add (i * 3)) 3 = some c.cs ∧ Rd [] W 1 c.v c.c.l.length (c.c.l.map B8) ∧ c.c.key.length ≤ 1048576 ∧ c.c.l.length ≤ 1048576) (fun i hil => by
      obtain ⟨cs', h1, h2⟩ := hi i (by omega)
      rw [h3] at h1
      obtain ⟨c, rfl, hR, q1, q2⟩ := cell_bulk h2
      have := bulk_part (d := D i) (l := (List.range len).map D) (List.mem_map.2 ⟨i, List.mem_range.2 hil, rfl⟩)
      exact ⟨c, h1, hR, by simp only at q1; omega, by simp only at q2; omega⟩)
    have hlen : ((List.range len).map V).length = len := by simp
    have hfl := flat3_len ((List.range len).map V)
    rw [hlen] at hfl
    have hmem : ∀ c ∈ (List.range len).map V, Rd [] W 1 c.v c.c.l.length (c.c.l.map B8) ∧ c.c.key.length ≤ 1048576 ∧ c.c.l.length ≤ 1048576 := by
      intro c hc
      obtain ⟨i, hi2, rfl⟩ := List.mem_map.1 hc
      exact (hV i (List.mem_range.1 hi2)).2
    refine ⟨(List.range len).map V, ⟨⟨by rw [hlen]; exact hfl, ⟨_, _, by rw [hlen], by rw [hlen]; exact hl, hm⟩, fun j u hu2 => ?_, fun _ => ⟨by simp, _, _, _, rfl⟩⟩, fun c hc => ⟨(hmem c hc).1, ?_⟩, by rw [hlen]; omega⟩, by rw [hlen]; omega, fun c hc => (hmem c hc).2⟩
    · have hj := (List.getElem?_eq_some_iff.1 hu2).1
      rw [hfl] at hj
      have hq : j / 3 < len := by omega
      obtain ⟨h1, -⟩ := hV (j / 3) hq
      have h4 := (World.cells?_some h1).2.2 (j % 3) (Nat.mod_lt _ (by omega))
      have ej : j / 3 * 3 + j % 3 = j := by omega
      rw [add_add, ej] at h4
      show W.cell? (a.add j) = _
      rw [h4]
      have hgd : ((List.range len).map V).getD (j / 3) c0 = V (j / 3) := by
        rw [List.getD_eq_getElem?_getD, List.getElem?_map, List.getElem?_range hq]; rfl
      have hjl : j % 3 < (V (j / 3)).cs.length := Nat.mod_lt _ (by omega)
      have hg := flat3_get (cs := (List.range len).map V) (i := j / 3) (j := j % 3) (d := c0) (u := (V (j / 3)).cs[j % 3]) (by rw [hlen]; exact hq) (by rw [hgd]; exact List.getElem?_eq_getElem hjl)
      rw [ej, hu2] at hg
      rw [List.getElem?_eq_getElem hjl, Option.some.inj hg]
    · have := (hmem c hc).2
      unfold small
      omega
end
end Go.Proofs.Ytdcmbcjkdhdohaa
