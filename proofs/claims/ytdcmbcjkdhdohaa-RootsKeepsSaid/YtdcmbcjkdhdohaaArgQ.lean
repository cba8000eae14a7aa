/- The argument of the law RootsKeeps under the form's own reach: cells whose keys and values may be long; what 'few' tells of them. -/
import Derived.Test.YtdcmbcjkdhdohaaArg2
import Derived.Test.YtdcmbcjkdhdohaaRootsL
import Derived.Deep.Slices
namespace Go.Proofs.Ytdcmbcjkdhdohaa
open Go Go.RowKit Go.ChangeShapes Go.WideShapes Go.ChangeAt
set_option linter.unusedVariables false
set_option linter.unusedSimpArgs false
/-- Cells that are read, their values of any length. -/
structure CsQ (w : World) (v : Value) (cs : List Cl) : Prop where
  rd : Rd [] w 3 v cs.length (cs.flatMap Cl.cs)
  each : ∀ c ∈ cs, Rd [] w 1 c.v c.c.l.length (c.c.l.map B8) ∧ c.c.key.length ≤ 140737488351232 ∧ c.c.l.length ≤ 140737488351232
  le : cs.length ≤ 140737488351232
theorem CsQ.st {w w0 : World} {L : List Part} {v : Value} {cs : List Cl} (h : CsQ w0 v cs) (H : St w0 [] L w) : CsQ w v cs := ⟨h.rd.st H, fun c hc => ⟨(h.each c hc).1.st H, (h.each c hc).2⟩, h.le⟩
theorem CsQ.at {w : World} {v : Value} {cs : List Cl} {i : Nat} {d : Cl} (h : CsQ w v cs) (hi : i < cs.length) : Rd [] w 1 (cs.getD i d).v (cs.getD i d).c.l.length ((cs.getD i d).c.l.map B8) ∧ (cs.getD i d).c.key.length ≤ 140737488351232 ∧ (cs.getD i d).c.l.length ≤ 140737488351232 := by
  rw [List.getD_eq_getElem?_getD, List.getElem?_eq_getElem hi]; exact h.each _ (List.getElem_mem hi)
/-- What the first i of the cells take of the bound. -/
def fewS (cs : List Cl) : Nat → Nat
  | 0 => 0
  | i + 1 => fewS cs i + (64 + (cs.getD i c0).c.l.length)
theorem fewS_len (cs : List Cl) : ∀ i, 64 * i ≤ fewS cs i
  | 0 => Nat.le_refl _
  | i + 1 => by have := fewS_len cs i; simp only [fewS]; omega
theorem fewS_get (cs : List Cl) : ∀ i j, j < i → (cs.getD j c0).c.l.length ≤ fewS cs i
  | 0, j, h => by omega
  | i + 1, j, h => by
    simp only [fewS]
    by_cases e : j = i
    · subst e; omega
    · have := fewS_get cs i j (by omega); omega
theorem few_csr {w : World} {v : Value} {cs : List Cl} (h : CsQ w v cs) (hf : fewS cs cs.length ≤ 134217728) : CsR [] w v cs ∧ cs.length ≤ 134217728 ∧ ∀ c ∈ cs, c.c.l.length ≤ 134217728 := by
  have hl := fewS_len cs cs.length
  have hv : ∀ c ∈ cs, c.c.l.length ≤ 134217728 := by
    intro c hc
    obtain ⟨j, hj, rfl⟩ := List.mem_iff_getElem.1 hc
    have := fewS_get cs cs.length j hj
    rw [List.getD_eq_getElem?_getD, List.getElem?_eq_getElem hj] at this
    have h2 : (cs[j]).c.l.length ≤ fewS cs cs.length := this
    omega
  refine ⟨⟨h.rd, fun c hc => ⟨(h.each c hc).1, ?_⟩, by omega⟩, by omega, hv⟩
  have h1 := (h.each c hc).2
  have h2 := hv c hc
  unfold small
  omega
section
variable {H : Type} {enc : TypeId × Value → H} {P : Program} {W : World} {ts : List TypeId} {ds : List (DataW H)}
theorem weights_all {e : TypeId} {d : DataW H} {n : Nat} (hn : n ∈ d.weights P e) : ∀ {l : List (DataW H)}, d ∈ l → n ∈ DataW.weightsAll P e l
  | [], h => by cases h
  | x :: r, h => by
    simp only [DataW.weightsAll, List.mem_append]
    rcases List.mem_cons.1 h with rfl | h
    · exact .inl hn
    · exact .inr (weights_all hn h)
theorem cell_reach {fuel : Nat} {cs : List Value} {x : DataW H × List MemPlace} (hf : DataW.trod enc Try.prog W 0 (fun _ => true) true fuel 48 cs = some x) (hw : ∀ n ∈ x.1.weights Try.prog 48, n ≤ reachBytes) :
    ∃ c : Cl, cs = c.cs ∧ Rd [] W 1 c.v c.c.l.length (c.c.l.map B8) ∧ c.c.key.length ≤ 140737488351232 ∧ c.c.l.length ≤ 140737488351232 := by
  have hu := Try.underlying48
  obtain ⟨xs, n, -, hx, hl, hxl, hi⟩ := DataW.trod_struct hu hf
  have h3 : Try.prog.cellsOf 48 = 3 := by kernel_rfl
  rw [h3] at hl
  obtain ⟨c0, c1, c2, rfl⟩ := list3 hl
  have k3 : Try.prog.cellsOf 3 = 1 := by kernel_rfl
  have k9 : Try.prog.cellsOf 9 = 1 := by kernel_rfl
  have k23 : Try.prog.cellsOf 23 = 1 := by kernel_rfl
  obtain ⟨x0, x1, x2, rfl⟩ := list3 (show xs.length = 3 from hxl)
  have f0 : DataW.trod enc Try.prog W 0 (fun _ => true) true n 3 ((([c0, c1, c2] : List Value).drop 0).take (Try.prog.cellsOf 3)) = some x0 := hi 0 _ rfl
  have f1 : DataW.trod enc Try.prog W 0 (fun _ => true) true n 9 ((([c0, c1, c2] : List Value).drop 1).take (Try.prog.cellsOf 9)) = some x1 := hi 1 _ rfl
  have f2 : DataW.trod enc Try.prog W 0 (fun _ => true) true n 23 ((([c0, c1, c2] : List Value).drop 2).take (Try.prog.cellsOf 23)) = some x2 := hi 2 _ rfl
  simp only [k3, k9, k23, List.drop_zero, List.take_succ_cons, List.take_zero, List.drop_succ_cons] at f0 f1 f2
  obtain ⟨z, e0, -, -⟩ := DataW.trod_int Try.underlying3 f0
  obtain ⟨s, e1, q1⟩ : ∃ s : ByteArray, c1 = .string s ∧ x1.1 = .lit (.string s.data.toList) := by
    cases n with
    | zero => simp [DataW.trod] at f1
    | succ n =>
      simp only [DataW.trod, Try.underlying9] at f1
      cases c1 <;> simp at f1
      rename_i s
      exact ⟨s, rfl, by rw [← f1.2]⟩
  have hx1 : x.1 = .agg [x0.1, x1.1, x2.1] := by rw [hx]; rfl
  rw [hx1] at hw
  simp only [DataW.weights, hu] at hw
  obtain ⟨l, hR, hll⟩ := bytes_cells Try.underlying23 Try.underlying5 (by kernel_rfl) (by kernel_rfl) f2 (fun m hm => hw m (DataW.weights_mem_each (j := 2) (t := 23) (d := x2.1) rfl rfl m hm))
  have hk := hw s.data.toList.length (DataW.weights_mem_each (j := 1) (t := 9) (d := x1.1) rfl rfl _ (by rw [q1]; simp [DataW.weights]))
  refine ⟨⟨⟨z, s.data.toList, l⟩, c2⟩, ?_, hR, ?_, hll⟩
  · simp at e0
    subst e0 e1
    rfl
  · show s.data.toList.length ≤ _; simp only [reachBytes] at hk; omega
theorem cells_reach {t : TypeId} {fuel : Nat} {v : Value} {x : DataW H × List MemPlace} (hu : Try.prog.underlying t = some (.slice 48)) (hf : DataW.trod enc Try.prog W 0 (fun _ => true) true fuel t [v] = some x) (hw : ∀ n ∈ x.1.weights Try.prog t, n ≤ reachBytes) :
    ∃ cs : List Cl, CsQ W v cs := by
  have h3 : Try.prog.cellsOf 48 = 3 := by kernel_rfl
  have hb : Try.prog.bytesOf 48 = 48 := by kernel_rfl
  rcases Go.Deep.open_slice hu hf with ⟨hcs, -⟩ | ⟨a, len, cap, m, n, D, Pl, hcs, -, hl, hm, hmm, rfl, hi⟩
  · simp at hcs
    subst hcs
    exact ⟨[], ⟨⟨rfl, ⟨_, _, rfl, Nat.le_refl _, by simp [maxLen]⟩, by simp, by simp⟩, by simp, by simp⟩⟩
  · simp at hcs
    subst hcs
    simp only [if_true] at hmm
    subst hmm
    simp only [DataW.weights, hu, List.mem_cons, List.mem_append, hb] at hw
    have hlw := hw _ (.inl rfl)
    simp only [List.length_map, List.length_range, reachBytes] at hlw
    haveI : Inhabited Cl := ⟨c0⟩
    obtain ⟨V, hV⟩ := Go.Deep.choose_lt (α := Cl) (n := len) (p := fun i c => W.cells? 0 (a.add (i * 3)) 3 = some c.cs ∧ Rd [] W 1 c.v c.c.l.length (c.c.l.map B8) ∧ c.c.key.length ≤ 140737488351232 ∧ c.c.l.length ≤ 140737488351232) (fun i hil => by
      obtain ⟨cs', h1, h2⟩ := hi i (by omega)
      rw [h3] at h1
      obtain ⟨c, rfl, q⟩ := cell_reach h2 (fun n hn => hw n (.inr (.inl (weights_all hn (List.mem_map.2 ⟨i, List.mem_range.2 hil, rfl⟩)))))
      exact ⟨c, h1, q⟩)
    have hlen : ((List.range len).map V).length = len := by simp
    have hfl := flat3_len ((List.range len).map V)
    rw [hlen] at hfl
    have hmem : ∀ c ∈ (List.range len).map V, Rd [] W 1 c.v c.c.l.length (c.c.l.map B8) ∧ c.c.key.length ≤ 140737488351232 ∧ c.c.l.length ≤ 140737488351232 := by
      intro c hc
      obtain ⟨i, hi2, rfl⟩ := List.mem_map.1 hc
      exact (hV i (List.mem_range.1 hi2)).2
    refine ⟨(List.range len).map V, ⟨⟨by rw [hlen]; exact hfl, ⟨_, _, by rw [hlen], by rw [hlen]; exact hl, hm⟩, fun j u hu2 => ?_, fun _ => ⟨by simp, _, _, _, rfl⟩⟩, hmem, by rw [hlen]; omega⟩⟩
    have hj := (List.getElem?_eq_some_iff.1 hu2).1
    rw [hfl] at hj
    have hq : j / 3 < len := by omega
    obtain ⟨h1, -⟩ := hV (j / 3) hq
    have h4 := (World.cells?_some h1).2.2 (j % 3) (Nat.mod_lt _ (by omega))
    have ej : j / 3 * 3 + j % 3 = j := by omega
    rw [add_add, ej] at h4
    show W.cell? (a.add j) = _
    rw [h4]
    have hgd : ((List.range len).map V).getD (j / 3) c0 = V (j / 3) := by
      rw [List.getD_eq_getElem?_getD, List.getElem?_map, List.getElem?_range hq]; rfl
    have hjl : j % 3 < (V (j / 3)).cs.length := Nat.mod_lt _ (by omega)
    have hg := flat3_get (cs := (List.range len).map V) (i := j / 3) (j := j % 3) (d := c0) (u := (V (j / 3)).cs[j % 3]) (by rw [hlen]; exact hq) (by rw [hgd]; exact List.getElem?_eq_getElem hjl)
    rw [ej, hu2] at hg
    rw [List.getElem?_eq_getElem hjl, Option.some.inj hg]
set_option maxRecDepth 100000 in
theorem asked_reach {r : Reach} {b0 j : Nat} {v : Value} {d : DataW H} {p : List MemPlace} (hval : Value.okWide Try.prog W r b0 43 v) (h : DataW.Trod enc Try.prog W 0 (fun _ => true) true 43 v d p)
    (hsz : (DataW.weightsEach Try.prog ts ds).all (· ≤ reachBytes) = true) (ht : ts[j]? = some 43) (hd : ds[j]? = some d) :
    ∃ (v0 : Value) (cs : List Cl) (kind : Int) (key : List UInt8) (n : Int) (lv : Value), v = .agg ([v0, I kind, .string (bst key), I n, lv] : List Value).toArray ∧ CsQ W v0 cs := by
  have hu := Try.underlying43
  simp only [Value.okWide, hu] at hval
  obtain ⟨cs, rfl, -, -⟩ := hval
  obtain ⟨fuel, hf⟩ := h
  obtain ⟨xs, n, -, hx, hl, hxl, hi⟩ := DataW.trod_struct hu hf
  have h3 : Try.prog.cellsOf 43 = 5 := by kernel_rfl
  rw [h3] at hl
  have hcs : (Value.agg cs).cells.toList = cs.toList := rfl
  rw [hcs] at hl hi
  obtain ⟨c⟩ := cs
  have k38 : Try.prog.cellsOf 38 = 1 := by kernel_rfl
  have k3 : Try.prog.cellsOf 3 = 1 := by kernel_rfl
  have k9 : Try.prog.cellsOf 9 = 1 := by kernel_rfl
  have k41 : Try.prog.cellsOf 41 = 2 := by kernel_rfl
  obtain ⟨c0, c1, c2, c3, c4, rfl⟩ : ∃ a b c' d e, c = [a, b, c', d, e] := by
    match c, (show c.length = 5 from hl) with
    | [a, b, c', d, e], _ => exact ⟨a, b, c', d, e, rfl⟩
  obtain ⟨x0, x1, x2, x3, rfl⟩ : ∃ a b c' d, xs = [a, b, c', d] := by
    match xs, (show xs.length = 4 from hxl) with
    | [a, b, c', d], _ => exact ⟨a, b, c', d, rfl⟩
  have f0 : DataW.trod enc Try.prog W 0 (fun _ => true) true n 38 ((([c0, c1, c2, c3, c4] : List Value).drop 0).take (Try.prog.cellsOf 38)) = some x0 := hi 0 _ rfl
  have f1 : DataW.trod enc Try.prog W 0 (fun _ => true) true n 3 ((([c0, c1, c2, c3, c4] : List Value).drop 1).take (Try.prog.cellsOf 3)) = some x1 := hi 1 _ rfl
  have f2 : DataW.trod enc Try.prog W 0 (fun _ => true) true n 9 ((([c0, c1, c2, c3, c4] : List Value).drop 2).take (Try.prog.cellsOf 9)) = some x2 := hi 2 _ rfl
  have f3 : DataW.trod enc Try.prog W 0 (fun _ => true) true n 41 ((([c0, c1, c2, c3, c4] : List Value).drop 3).take (Try.prog.cellsOf 41)) = some x3 := hi 3 _ rfl
  simp only [k38, k3, k9, k41, List.drop_zero, List.take_succ_cons, List.take_zero, List.drop_succ_cons] at f0 f1 f2 f3
  have hd2 : d = .agg [x0.1, x1.1, x2.1, x3.1] := by simpa using congrArg Prod.fst hx
  obtain ⟨cs, hC⟩ := cells_reach Try.underlying38 f0 (fun m hm => by
    have hmem := DataW.weights_mem_each (P := Try.prog) ht hd m (by
      rw [hd2]
      simp only [DataW.weights, hu]
      exact DataW.weights_mem_each (j := 0) (t := 38) (d := x0.1) rfl rfl m hm)
    simpa using List.all_eq_true.1 hsz m hmem)
  obtain ⟨z, e1, -, -⟩ := DataW.trod_int Try.underlying3 f1
  obtain ⟨s, e2⟩ : ∃ s : ByteArray, c2 = .string s := by
    cases n with
    | zero => simp [DataW.trod] at f2
    | succ n =>
      simp only [DataW.trod, Try.underlying9] at f2
      cases c2 <;> simp at f2
      rename_i s
      exact ⟨s, rfl⟩
  obtain ⟨n', e3⟩ : ∃ n' : Int, c3 = I n' := by
    obtain ⟨ys, m, -, hy, hyl, hyx, hyi⟩ := DataW.trod_struct Try.underlying41 f3
    have g0 := hyi 0 _ rfl
    match ys, (show ys.length = 2 from hyx) with
    | [y0, y1], _ =>
      have g1 : DataW.trod enc Try.prog W 0 (fun _ => true) true m 3 ((([c3, c4] : List Value).drop 0).take (Try.prog.cellsOf 3)) = some y0 := hyi 0 _ rfl
      simp only [k3, List.drop_zero, List.take_succ_cons, List.take_zero] at g1
      obtain ⟨q, e, -, -⟩ := DataW.trod_int Try.underlying3 g1
      simp at e
      exact ⟨q, e⟩
  simp at e1
  subst e1 e2 e3
  exact ⟨c0, cs, z, s.data.toList, n', c4, rfl, hC⟩
end
end Go.Proofs.Ytdcmbcjkdhdohaa
