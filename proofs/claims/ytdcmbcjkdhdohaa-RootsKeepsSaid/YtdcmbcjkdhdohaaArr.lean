/- Arrays of ours as slices; elements of an array's value; the words of a digest laid out as bytes. -/
import Derived.Test.YtdcmbcjkdhdohaaDig
namespace Go.Proofs.Ytdcmbcjkdhdohaa
open Go Go.RowKit

section
variable {α : Type} {F : α → Value} {P : Program} {n : Nat} {f : Nat → Value} {ty t : TypeId} {w w0 : World} {x ix : Operand} {X : List Nat} {L : List Part} {g : Nat} {tt : TypeId} {l : List α}
theorem rd_arr {k : Nat} (H : St w0 X L w) (i : Nat) (hi : L[i]? = some [(g, Rw tt (l.map F))]) (hk : l.length = k) (hm : k ≤ maxLen) : Rd [] w 1 (.slice (some (bs g)) k k) l.length (l.map F) := by
  have := H.rdO (o := 0) (k := k) (cap := k) i hi (by simp; omega) ⟨Nat.le_refl _, hm⟩
  rw [List.drop_zero, List.take_of_length_le (by simp; omega)] at this
  rw [hk]
  exact this
theorem rd_dig {s : S8} {r : List UInt8} {m : Nat} (H : St w0 X L w) (i : Nat) (hi : L[i]? = some [(g, Rw tt (dig s r m))]) (h : r.length = 64) : Rd [] w 1 (.slice (some ((bs g).add 8)) 64 64) r.length (r.map B8) := by
  have := H.rdO (o := 8) (k := 64) (cap := 64) i hi (by rw [dig_length h]; omega) ⟨Nat.le_refl _, by simp [maxLen]⟩
  rw [dig_rest h] at this
  rw [h]
  exact this
/-- An element of an array's value. -/
theorem y_ixAgg {e : TypeId} {len m : Nat} {k : IntKind} {i : Int} {us : List Value} {u : Value} (hu : P.underlying t = some (.array len e)) (hs : Sz P e 1) (he : scal P e) (hx : ev n f x = .agg us.toArray)
    (hi : ev n f ix = .int k i) (hm : i = (m : Int)) (hlt : m < len) (hg : us[m]? = some u) : Y P n f (.index t x ix) ty w u w := by
  intro o ho _
  subst hm
  have h1 : (0 : Int) ≤ (m : Int) ∧ (m : Int) < (len : Int) := by omega
  simp [execOp, ho, hx, hi, Instr.index, asIntOf, run_underlying hu, run_sizeOf hs, hlt, part, run_isAgg_false he, hg]
end

/-- A literal of one cell an element: its cells. -/
theorem fill1 {z u : Value} (h : u.cells = #[u]) : Instr.fill (fun i => some (i * 1, 1)) ((Array.range (1 * 1)).map (z.cells[· % z.cells.size]!)) [(0, u)] = some ([u] : List Value).toArray := by
  have e : Array.range (1 * 1) = #[0] := rfl
  rw [e]
  simp [Instr.fill, h]
theorem fill2 {z u0 u1 : Value} (h0 : u0.cells = #[u0]) (h1 : u1.cells = #[u1]) : Instr.fill (fun i => some (i * 1, 1)) ((Array.range (2 * 1)).map (z.cells[· % z.cells.size]!)) [(0, u0), (1, u1)] = some ([u0, u1] : List Value).toArray := by
  have e : Array.range (2 * 1) = #[0, 1] := rfl
  rw [e]
  simp [Instr.fill, h0, h1]
theorem fill3 {z u0 u1 u2 : Value} (h0 : u0.cells = #[u0]) (h1 : u1.cells = #[u1]) (h2 : u2.cells = #[u2]) : Instr.fill (fun i => some (i * 1, 1)) ((Array.range (3 * 1)).map (z.cells[· % z.cells.size]!)) [(0, u0), (1, u1), (2, u2)] = some ([u0, u1, u2] : List Value).toArray := by
  have e : Array.range (3 * 1) = #[0, 1, 2] := rfl
  rw [e]
  simp [Instr.fill, h0, h1, h2]
theorem Rd.cells {X : List Nat} {w : World} {s n : Nat} {v : Value} {cs : List Value} (h : Rd X w s v n cs) : v.cells = #[v] := by
  obtain ⟨a, c, rfl, -⟩ := h.shape
  rfl
theorem dg_nil : Dg [] (List.replicate 64 0) := ⟨by simp, by simp [rem]⟩
theorem fill0 {z : Value} {s : Nat} : Instr.fill (fun i => some (i * s, s)) ((Array.range (0 * s)).map (z.cells[· % z.cells.size]!)) [] = some ([] : List Value).toArray := by
  have er : ∀ F : Nat → Value, (Array.range 0).map F = #[] := fun F => by apply Array.eq_empty_of_size_eq_zero; simp
  rw [Nat.zero_mul, er]
  rfl

/-- The first k words of a digest, as bytes in a row of 32. -/
def hw (s : S8) : Nat → List UInt8
  | 0 => List.replicate 32 0
  | k + 1 => ((((hw s k).set (4 * k) ((s.list.getD k 0) >>> UInt32.ofNat 24).toUInt8).set (4 * k + 1) ((s.list.getD k 0) >>> UInt32.ofNat 16).toUInt8).set (4 * k + 2) ((s.list.getD k 0) >>> UInt32.ofNat 8).toUInt8).set (4 * k + 3) (s.list.getD k 0).toUInt8
@[simp] theorem hw_length (s : S8) : ∀ k, (hw s k).length = 32
  | 0 => by simp [hw]
  | k + 1 => by simp [hw, hw_length s k]
theorem hw_8 (s : S8) : hw s 8 = outS s := by kernel_rfl
theorem be64_take (x : UInt64) (q : Nat) (h : q < 8) : (be64 x).take (q + 1) = (be64 x).take q ++ [(x >>> UInt64.ofNat (56 - 8 * q)).toUInt8] := by
  have : q = 0 ∨ q = 1 ∨ q = 2 ∨ q = 3 ∨ q = 4 ∨ q = 5 ∨ q = 6 ∨ q = 7 := by omega
  rcases this with rfl | rfl | rfl | rfl | rfl | rfl | rfl | rfl <;> rfl
theorem u64_bits (k : Nat) : 8 * u64 (k : Int) = bitsOf k := by
  have : ((k : Int) % 18446744073709551616).toNat = k % 18446744073709551616 := by omega
  simp only [u64, bitsOf, this]
theorem tail_length (k : Nat) : (tailOf k).length = (119 - k % 64) % 64 + 9 := by simp [tailOf, be64]
theorem dig_one {s : S8} {r : List UInt8} {m : Nat} : ∀ u ∈ dig s r m, u.oneCell' = true := by
  intro u hu
  simp only [dig, List.mem_append, List.mem_map, List.mem_singleton] at hu
  rcases hu with ⟨a, -, rfl⟩ | ⟨a, -, rfl⟩ | rfl <;> rfl
theorem map_lay {F : UInt8 → Value} {r l : List UInt8} {o k : Nat} (hk : k = l.length) : (r.map F).take o ++ l.map F ++ (r.map F).drop (o + k) = (lay r o l).map F := by
  subst hk
  simp [lay]
theorem map_layA {F : UInt8 → Value} (r l : List UInt8) (o : Nat) : (r.map F).take o ++ (l.map F).take l.length ++ (r.map F).drop (o + l.length) = (lay r o l).map F := by
  rw [← map_lay (F := F) (l := l) rfl, List.take_of_length_le (l := l.map F) (by simp)]
theorem map_layT {F : UInt8 → Value} {r l : List UInt8} {o k : Nat} (hk : k ≤ l.length) : (r.map F).take o ++ (l.map F).take k ++ (r.map F).drop (o + k) = (lay r o (l.take k)).map F := by
  rw [← map_lay (F := F) (l := l.take k) (k := k) (by simp; omega), List.map_take]
def tz (j : Nat) : List UInt8 := 0x80 :: List.replicate j 0
theorem tz_length (j : Nat) : (tz j).length = j + 1 := by simp [tz]
theorem tz_succ (j : Nat) : tz j ++ [0] = tz (j + 1) := by simp [tz, List.replicate_succ']
theorem be64_step (xs : List UInt8) (x : UInt64) (q : Nat) (h : q < 8) : xs ++ (be64 x).take q ++ [(x >>> UInt64.ofNat (56 - 8 * (q : Int)).toNat).toUInt8] = xs ++ (be64 x).take (q + 1) := by
  rw [be64_take x q h, List.append_assoc, show (56 - 8 * (q : Int)).toNat = 56 - 8 * q by omega]
theorem tail_eq (k : Nat) : tz ((119 - k % 64) % 64) ++ (be64 (8 * u64 ((k : Nat) : Int))).take 8 = tailOf k := by rw [u64_bits]; rfl
/-- A literal's block as a slice. -/
theorem rd_lit {w w0 : World} {X : List Nat} {L : List Part} {g k : Nat} {tt : TypeId} {us : List Value} (H : St w0 X L w) (i : Nat) (hi : L[i]? = some [(g, Rw tt us)]) (hk : us.length = k) (hm : k ≤ maxLen) : Rd [] w 1 (.slice (some (bs g)) k k) k us := by
  have := H.rdO (o := 0) (k := k) (cap := k) i hi (by omega) ⟨Nat.le_refl _, hm⟩
  rw [List.drop_zero, List.take_of_length_le (by omega)] at this
  exact this
theorem os_lit {g k e : Nat} {us : List Value} (hk : us.length = k) (hm : k ≤ maxLen) : OS e 1 (.slice (some (bs g)) k k) k us [(g, Rw e us)] :=
  .inr ⟨g, k, us, rfl, rfl, Nat.le_refl _, hm, by omega, List.take_of_length_le (by omega)⟩
/-- A cell of a block that was there. -/
theorem St.oldCell {w w0 : World} {X : List Nat} {L : List Part} {g k : Nat} {t : TypeId} {l : List Value} {u : Value} (H : St w0 X L w) (h : w0.heap[g]? = some (Rw t l)) (hX : g ∉ X) (hu : l[k]? = some u) : w.cell? ((bs g).add k) = some u := by
  have hlt : g < w0.heap.size := (Array.getElem?_eq_some_iff.1 h).1
  exact (cell_rw ((H.keep g hlt hX).trans h) k).trans hu
/-- Slices of bytes, each read. -/
def Rds (w : World) : List Value → List (List UInt8) → Prop
  | [], [] => True
  | v :: vs, l :: ls => Rd [] w 1 v l.length (l.map B8) ∧ Rds w vs ls
  | _, _ => False
theorem Rds.len {w : World} : ∀ {vs : List Value} {ls : List (List UInt8)}, Rds w vs ls → vs.length = ls.length
  | [], [], _ => rfl
  | _ :: vs, _ :: ls, h => by simp [Rds.len h.2]
  | [], _ :: _, h => h.elim
  | _ :: _, [], h => h.elim
theorem Rds.get {w : World} : ∀ {vs : List Value} {ls : List (List UInt8)}, Rds w vs ls → ∀ (i : Nat), i < ls.length → Rd [] w 1 (vs.getD i undef) (ls.getD i []).length ((ls.getD i []).map B8)
  | [], [], _, _, h => by simp at h
  | _ :: vs, _ :: ls, h, 0, _ => h.1
  | _ :: vs, _ :: ls, h, i + 1, hi => by
    have := Rds.get h.2 i (by simpa using hi)
    simpa using this
  | [], _ :: _, h, _, _ => h.elim
  | _ :: _, [], h, _, _ => h.elim
theorem flat_succ (ls : List (List UInt8)) (k : Nat) (h : k < ls.length) : (ls.take (k + 1)).flatten = (ls.take k).flatten ++ ls.getD k [] := by
  rw [List.take_succ_eq_append_getElem h, List.flatten_append]
  simp only [List.getD, List.getElem?_eq_getElem h, List.flatten_cons, List.flatten_nil, List.append_nil, Option.getD_some]
theorem flat_le (ls : List (List UInt8)) (k : Nat) : (ls.take k).flatten.length ≤ ls.flatten.length := by
  have : ls.flatten = (ls.take k).flatten ++ (ls.drop k).flatten := by rw [← List.flatten_append, List.take_append_drop]
  rw [this, List.length_append]
  omega
theorem getD_get {l : List Value} {k : Nat} (h : k < l.length) : l[k]? = some (l.getD k undef) := by simp [List.getD, h]
theorem outS_length (s : S8) : (outS s).length = 32 := rfl
@[simp] theorem sha_length (m : List UInt8) : (sha m).length = 32 := rfl
end Go.Proofs.Ytdcmbcjkdhdohaa
