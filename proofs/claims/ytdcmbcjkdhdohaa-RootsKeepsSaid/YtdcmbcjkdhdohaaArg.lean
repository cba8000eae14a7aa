/- Arguments as the rows hand them in, and what the walks are told of them. -/
import Derived.Test.YtdcmbcjkdhdohaaStr
import Derived.WalkKit
import Derived.ProofKit
import Derived.OpenShut
import Derived.ShutString
import Derived.ChangeOld
import Derived.Below
import Derived.SizedLaws
namespace Go.Proofs.Ytdcmbcjkdhdohaa
open Go Go.RowKit Go.ChangeShapes Go.WideShapes Go.ChangeAt

theorem own : ownKnob Try.prog.godebug = none := by kernel_rfl
theorem laidOut : laidOutB Try.prog = true := by kernel_rfl
section
variable {H : Type} {enc : TypeId × Value → H} {P : Program} {W : World} {ts : List TypeId} {ds : List (DataW H)}
/-- Integers of the kind u8 as bytes. -/
def by8 (zs : List Int) : List UInt8 := zs.map fun z => UInt8.ofNat z.toNat
theorem by8_at {z : Int} (h : (Lit.int .u8 z).wf = true) : (Value.int .u8 z) = B8 (UInt8.ofNat z.toNat) := by
  have h2 : 0 ≤ z ∧ z ≤ 255 := by simpa [Lit.wf, IntKind.min, IntKind.max, IntKind.signed, IntKind.bits] using h
  have : ((UInt8.ofNat z.toNat).toNat : Int) = z := by
    rw [UInt8.toNat_ofNat']
    omega
  show Value.int .u8 z = Value.int .u8 ((UInt8.ofNat z.toNat).toNat : Int)
  rw [this]
/-- A slice of bytes that comes in. -/
theorem bytes_arg {t e : TypeId} {j : Nat} {d : DataW H} {p : List MemPlace} {v : Value} (hu : P.underlying t = some (.slice e)) (he : P.underlying e = some (.int .u8)) (hc : P.cellsOf e = 1) (hb : P.bytesOf e = 1)
    (h : DataW.Trod enc P W 0 (fun _ => true) true t v d p) (hv : ∃ a n c, v = .slice a n c)
    (hsz : (DataW.weightsEach P ts ds).all (· ≤ reachBytes) = true) (ht : ts[j]? = some t) (hd : ds[j]? = some d) : ∃ l : List UInt8, Rd [] W 1 v l.length (l.map B8) ∧ l.length ≤ 140737488351232 := by
  obtain ⟨a, n, c, rfl⟩ := hv
  obtain ⟨fuel, hf⟩ := h
  rcases open_ints hu he hc hf with ⟨hcs, -⟩ | ⟨x, l, cap, zs, hcs, _, hl, hm, hz, hx, hcell, hwz⟩
  · simp [Value.cells] at hcs
    obtain ⟨rfl, rfl, rfl⟩ := hcs
    exact ⟨[], ⟨rfl, ⟨_, _, rfl, Nat.le_refl _, by simp [maxLen]⟩, by simp, by simp⟩, by simp⟩
  · simp [Value.cells] at hcs
    obtain ⟨rfl, rfl, rfl⟩ := hcs
    simp only [if_true] at hz
    obtain ⟨rfl, -⟩ := Prod.mk.inj hx
    have hr := sized_slice hsz ht hd hu
    rw [hb] at hr
    simp only [lits, List.length_map, List.length_take, List.length_drop, reachBytes] at hr
    have hlen : (by8 (zs.take n)).length = n := by simp [by8]; omega
    refine ⟨by8 (zs.take n), ⟨by simp, ⟨_, _, by rw [hlen], by omega, hm⟩, fun j u hu => ?_, fun _ => ⟨by simp, _, _, _, rfl⟩⟩, by rw [hlen]; omega⟩
    have hj : j < n := by
      have := (List.getElem?_eq_some_iff.1 hu).1
      simp [by8] at this
      omega
    have hj2 : j < zs.length := by omega
    have := hcell j hj2
    show W.cell? (x.add j) = some u
    rw [this, by8_at (hwz _ (by rw [List.getD_eq_getElem?_getD, List.getElem?_eq_getElem hj2]; exact List.getElem_mem hj2))]
    simp only [by8, List.getElem?_map, List.getElem?_take_of_lt hj, List.getElem?_eq_getElem hj2, Option.map_some] at hu
    rw [List.getD_eq_getElem?_getD, List.getElem?_eq_getElem hj2]
    exact hu
/-- An array of bytes that comes in. -/
def un8 : Value → UInt8
  | .int _ n => UInt8.ofNat n.toNat
  | _ => 0
theorem hash_cells {base fuel n : Nat} {spare : Nat → Bool} {held : Bool} {t e : TypeId} {cs : List Value} {x : DataW H × List MemPlace} (ht : P.underlying t = some (.array n e)) (he : P.underlying e = some (.int .u8)) (hc : P.cellsOf e = 1) (hn : P.cellsOf t = n)
    (h : DataW.trod enc P W base spare held fuel t cs = some x) : ∃ l : List UInt8, l.length = n ∧ cs = l.map B8 := by
  obtain ⟨xs, m, -, -, hl, hxl, hi⟩ := DataW.trod_array ht h
  rw [hn] at hl
  refine ⟨cs.map un8, by rw [List.length_map, hl], ?_⟩
  rw [List.map_map]
  have key : ∀ v ∈ cs, v = (B8 ∘ un8) v := by
    intro v hv
    obtain ⟨j, hj, rfl⟩ := List.mem_iff_getElem.1 hv
    have h2 := hi j (by omega)
    rw [List.getElem?_eq_getElem (by omega), hc, Nat.mul_one] at h2
    obtain ⟨z, hz, -, hw⟩ := DataW.trod_int he h2
    have h3 : cs[j] = .int .u8 z := by
      have := congrArg (fun l : List Value => l[0]?) hz
      simpa [List.getElem?_take, List.getElem?_drop, List.getElem?_eq_getElem hj] using this
    rw [h3]
    exact by8_at hw
  rw [← List.map_congr_left (f := id) (g := B8 ∘ un8) key, List.map_id]
theorem hash_arg {r : Reach} {b0 n : Nat} {t e : TypeId} {v : Value} {d : DataW H} {p : List MemPlace} (ht : P.underlying t = some (.array n e)) (he : P.underlying e = some (.int .u8)) (hc : P.cellsOf e = 1) (hn : P.cellsOf t = n)
    (hval : Value.okWide P W r b0 t v) (h : DataW.Trod enc P W 0 (fun _ => true) true t v d p) : ∃ l : List UInt8, l.length = n ∧ v = .agg (l.map B8).toArray := by
  simp only [Value.okWide, ht] at hval
  obtain ⟨cs, rfl, -, -⟩ := hval
  obtain ⟨fuel, hf⟩ := h
  obtain ⟨l, hl, he2⟩ := hash_cells ht he hc hn hf
  refine ⟨l, hl, ?_⟩
  have : cs.toList = l.map B8 := he2
  rw [← this]
theorem u64_arg {r : Reach} {b0 : Nat} {t : TypeId} {v : Value} {d : DataW H} {p : List MemPlace} (ht : P.underlying t = some (.int .u64)) (hval : Value.okWide P W r b0 t v) (h : DataW.Trod enc P W 0 (fun _ => true) true t v d p) : ∃ x : UInt64, v = U64 x := by
  obtain ⟨z, rfl, -, -, hw⟩ := open_int ht hval h
  have hb := bounds_u64 hw
  refine ⟨UInt64.ofNat z.toNat, ?_⟩
  have : ((UInt64.ofNat z.toNat).toNat : Int) = z := by
    rw [UInt64.toNat_ofNat']
    omega
  show Value.int .u64 z = Value.int .u64 ((UInt64.ofNat z.toNat).toNat : Int)
  rw [this]
theorem int_arg {r : Reach} {b0 : Nat} {t : TypeId} {v : Value} {d : DataW H} {p : List MemPlace} (ht : P.underlying t = some (.int .i64)) (hval : Value.okWide P W r b0 t v) (h : DataW.Trod enc P W 0 (fun _ => true) true t v d p) : ∃ z : Int, v = I z ∧ -9223372036854775808 ≤ z ∧ z ≤ 9223372036854775807 := by
  obtain ⟨z, rfl, -, -, hw⟩ := open_int ht hval h
  exact ⟨z, rfl, bounds_i64 hw⟩
end
end Go.Proofs.Ytdcmbcjkdhdohaa
