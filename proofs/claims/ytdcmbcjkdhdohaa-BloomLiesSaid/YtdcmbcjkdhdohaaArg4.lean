/- Arguments that hold slices of hashes. -/
import Derived.Test.YtdcmbcjkdhdohaaArg2
import Derived.Test.YtdcmbcjkdhdohaaHashS
import Derived.Deep.Slices
namespace Go.Proofs.Ytdcmbcjkdhdohaa
open Go Go.RowKit Go.ChangeShapes Go.WideShapes Go.ChangeAt
set_option linter.unusedVariables false
set_option linter.unusedSimpArgs false
section
variable {H : Type} {enc : TypeId × Value → H} {P : Program} {W : World} {ts : List TypeId} {ds : List (DataW H)}
theorem getD_range {α : Type} {V : Nat → α} {n i : Nat} {d : α} (h : i < n) : ((List.range n).map V).getD i d = V i := by
  rw [List.getD_eq_getElem?_getD, List.getElem?_map, List.getElem?_range h]; rfl
theorem hashes_cells {t e b : TypeId} {fuel : Nat} {c : Value} {x : DataW H × List MemPlace} (hu : P.underlying t = some (.slice e)) (he : P.underlying e = some (.array 32 b)) (hb : P.underlying b = some (.int .u8)) (hc : P.cellsOf b = 1) (hn : P.cellsOf e = 32) (hby : P.bytesOf e = 32)
    (hf : DataW.trod enc P W 0 (fun _ => true) true fuel t [c] = some x) (hw : ∀ n ∈ x.1.weights P t, n ≤ reachBytes) : ∃ hs : List (List UInt8), H32 hs ∧ Rd [] W 32 c hs.length (hs.flatten.map B8) ∧ hs.length * 32 ≤ 140737488351232 := by
  rcases Go.Deep.open_slice hu hf with ⟨hcs, -⟩ | ⟨a, len, cap, m, n, D, Pl, hcs, -, hl, hm, hmm, rfl, hi⟩
  · simp at hcs
    subst hcs
    exact ⟨[], by simp [H32], ⟨rfl, ⟨_, _, rfl, Nat.le_refl _, by simp [maxLen]⟩, by simp, by simp⟩, by simp⟩
  · simp at hcs
    subst hcs
    simp only [if_true] at hmm
    subst hmm
    obtain ⟨V, hV⟩ := Go.Deep.choose_lt (α := List UInt8) (n := len) (p := fun i l => l.length = 32 ∧ W.cells? 0 (a.add (i * 32)) 32 = some (l.map B8)) (fun i hil => by
      obtain ⟨cs', h1, h2⟩ := hi i (by omega)
      rw [hn] at h1
      obtain ⟨l, hl32, rfl⟩ := hash_cells he hb hc hn h2
      exact ⟨l, hl32, h1⟩)
    have hH : H32 ((List.range len).map V) := by
      intro q hq
      obtain ⟨i, hi2, rfl⟩ := List.mem_map.1 hq
      exact (hV i (List.mem_range.1 hi2)).1
    have hlen : ((List.range len).map V).length = len := by simp
    have hfl := flat_len hH
    rw [hlen] at hfl
    refine ⟨(List.range len).map V, hH, ⟨by rw [hlen]; exact hfl, ⟨_, _, by rw [hlen], by rw [hlen]; exact hl, hm⟩, fun j u hu2 => ?_, fun _ => ⟨by simp, _, _, _, rfl⟩⟩, ?_⟩
    · have hj := (List.getElem?_eq_some_iff.1 hu2).1
      rw [hfl] at hj
      have hq : j / 32 < len := by omega
      obtain ⟨h1, h2⟩ := hV (j / 32) hq
      have h3 := (World.cells?_some h2).2.2 (j % 32) (Nat.mod_lt _ (by omega))
      have hg := flat_getB hH (i := j / 32) (j := j % 32) (by rw [hlen]; exact hq) (Nat.mod_lt _ (by omega))
      have ej : j / 32 * 32 + j % 32 = j := by omega
      rw [ej] at hg
      rw [hg] at hu2
      obtain rfl := Option.some.inj hu2
      show W.cell? (a.add j) = _
      rw [add_add, ej] at h3
      rw [h3, getD_range hq]
      exact map_get B8 0 (by rw [h1]; exact Nat.mod_lt _ (by omega))
    · rw [hlen]
      have := hw ((((List.range len).map D).length + ((List.range (m - len)).map fun j => D (len + j)).length) * P.bytesOf e) (by simp [DataW.weights, hu])
      rw [hby, List.length_map, List.length_range] at this
      simp only [reachBytes] at this
      omega
set_option maxRecDepth 100000 in
theorem ask_arg {r : Reach} {b0 j : Nat} {v : Value} {d : DataW H} {p : List MemPlace} (hval : Value.okWide Try.prog W r b0 76 v) (h : DataW.Trod enc Try.prog W 0 (fun _ => true) true 76 v d p)
    (hsz : (DataW.weightsEach Try.prog ts ds).all (· ≤ reachBytes) = true) (ht : ts[j]? = some 76) (hd : ds[j]? = some d) :
    ∃ (x : UInt64) (lv : Value) (hs : List (List UInt8)) (h : List UInt8), v = .agg (U64 x :: lv :: h.map B8).toArray ∧ H32 hs ∧ Rd [] W 32 lv hs.length (hs.flatten.map B8) ∧ hs.length * 32 ≤ 140737488351232 ∧ h.length = 32 := by
  have hu := Try.underlying76
  simp only [Value.okWide, hu] at hval
  obtain ⟨cs, rfl, -, -⟩ := hval
  obtain ⟨fuel, hf⟩ := h
  obtain ⟨xs, n, -, hx, hl, hxl, hi⟩ := DataW.trod_struct hu hf
  have h3 : Try.prog.cellsOf 76 = 34 := by kernel_rfl
  rw [h3] at hl
  have hcs : (Value.agg cs).cells.toList = cs.toList := rfl
  rw [hcs] at hl hi
  obtain ⟨c⟩ := cs
  have k59 : Try.prog.cellsOf 59 = 1 := by kernel_rfl
  have k72 : Try.prog.cellsOf 72 = 1 := by kernel_rfl
  have k26 : Try.prog.cellsOf 26 = 32 := by kernel_rfl
  obtain ⟨c0, c1, cr, rfl⟩ : ∃ c0 c1 cr, c = c0 :: c1 :: cr := by
    match c, hl with
    | c0 :: c1 :: cr, _ => exact ⟨c0, c1, cr, rfl⟩
  obtain ⟨x0, x1, x2, rfl⟩ := list3 (show xs.length = 3 from hxl)
  have f0 : DataW.trod enc Try.prog W 0 (fun _ => true) true n 59 (((c0 :: c1 :: cr : List Value).drop 0).take (Try.prog.cellsOf 59)) = some x0 := hi 0 _ rfl
  have f1 : DataW.trod enc Try.prog W 0 (fun _ => true) true n 72 (((c0 :: c1 :: cr : List Value).drop 1).take (Try.prog.cellsOf 72)) = some x1 := hi 1 _ rfl
  have f2 : DataW.trod enc Try.prog W 0 (fun _ => true) true n 26 (((c0 :: c1 :: cr : List Value).drop 2).take (Try.prog.cellsOf 26)) = some x2 := hi 2 _ rfl
  simp only [k59, k72, k26, List.drop_zero, List.take_succ_cons, List.take_zero, List.drop_succ_cons] at f0 f1 f2
  have hcr : cr.take 32 = cr := List.take_of_length_le (by simp at hl; omega)
  rw [hcr] at f2
  obtain ⟨z, e0, -, hw⟩ := DataW.trod_int Try.underlying59 f0
  have hb := bounds_u64 hw
  obtain ⟨hs, hH, hR, hll⟩ := hashes_cells Try.underlying72 Try.underlying26 Try.underlying5 (by kernel_rfl) (by kernel_rfl) (by kernel_rfl) f1 (fun m hm => by
    have hmem := DataW.weights_mem_each (P := Try.prog) ht hd m (by
      have hd2 : d = .agg [x0.1, x1.1, x2.1] := by simpa using congrArg Prod.fst hx
      rw [hd2]
      simp only [DataW.weights, hu]
      exact DataW.weights_mem_each (j := 1) (t := 72) (d := x1.1) rfl rfl m hm)
    simpa using List.all_eq_true.1 hsz m hmem)
  obtain ⟨l, hl32, e2⟩ := hash_cells Try.underlying26 Try.underlying5 (by kernel_rfl) (by kernel_rfl) f2
  refine ⟨UInt64.ofNat z.toNat, c1, hs, l, ?_, hH, hR, hll, hl32⟩
  have e3 : ((UInt64.ofNat z.toNat).toNat : Int) = z := by
    rw [UInt64.toNat_ofNat']
    omega
  simp at e0
  subst e0
  rw [e2]
  show _ = Value.agg (Value.int .u64 ((UInt64.ofNat z.toNat).toNat : Int) :: c1 :: l.map B8).toArray
  rw [e3]
end
end Go.Proofs.Ytdcmbcjkdhdohaa
