/- HMAC-SHA-256 as plain Lean; a row of bytes that bears the run-time's mark. -/
import Derived.Test.YtdcmbcjkdhdohaaSha3
namespace Go.Proofs.Ytdcmbcjkdhdohaa
open Go Go.RowKit

/-! ### The sum -/
def keyB (k : List UInt8) : List UInt8 := lay (List.replicate 64 0) 0 (if 64 < k.length then sha k else k)
/-- The first i bytes turned by x. -/
def tn (k : List UInt8) (x : UInt8) : Nat → List UInt8
  | 0 => k
  | i + 1 => (tn k x i).set i ((tn k x i).getD i 0 ^^^ x)
@[simp] theorem tn_length (k : List UInt8) (x : UInt8) : ∀ i, (tn k x i).length = k.length
  | 0 => rfl
  | i + 1 => by simp [tn, tn_length k x i]
@[simp] theorem keyB_length (k : List UInt8) : (keyB k).length = 64 := by
  unfold keyB
  rw [lay_length]
  · simp
  · split <;> simp <;> omega
def hmac (k m : List UInt8) : List UInt8 := sha (tn (keyB k) 0x5c 64 ++ sha (tn (keyB k) 0x36 64 ++ m))
@[simp] theorem hmac_length (k m : List UInt8) : (hmac k m).length = 32 := by simp [hmac]

theorem gv_of {n : Nat} {ops : Array Oper} {f : Nat → Value} {j t : Nat} {o : Oper} {v : Value} (h1 : ops[j]? = some o) (h2 : o.dst = some t) (h3 : ev n f (.tmp t) = v) : gv n ops f j = some v := by
  simp only [gv, h1, Option.bind_some, h2, Option.map_some, h3]

/-! ### Marked rows -/
abbrev Mk (t : TypeId) (l : List Value) : Obj := .cells l.toArray t (l.length, l.length + 1)
section
variable {P : Program} {n : Nat} {f : Nat → Value} {ty t : TypeId} {w w0 : World} {x : Operand} {X : List Nat} {L : List Part} {g k : Nat} {tt : TypeId} {l : List Value}
theorem freeze_heap (w : World) (g o : Nat) (c : Array Value) (e : TypeId) (h : w.heap[g]? = some (.cells c e (0, 0))) : (w.freeze { block := g, off := o } 1).heap[g]? = some (.cells c e (o, o + 1)) := by
  unfold World.freeze
  rw [if_neg (by decide)]
  simp [Array.getElem?_modify, h]
theorem freeze_other (w : World) (g o k : Nat) (h : k ≠ g) : (w.freeze { block := g, off := o } 1).heap[k]? = w.heap[k]? := by
  unfold World.freeze
  rw [if_neg (by decide)]
  simp [Array.getElem?_modify, Ne.symm h]
theorem St.mark (H : St w0 X ([(g, Rw tt l)] :: L) w) : St w0 X ([(g, Mk tt l)] :: L) (w.freeze { block := g, off := l.length } 1) := by
  have hg : w.heap[g]? = some (Rw tt l) := H.get 0 rfl
  have h2 : St w [g] [[(g, Mk tt l)]] (w.freeze { block := g, off := l.length } 1) := by
    refine ⟨by simp [World.freeze], by simp [World.freeze], by simp [World.freeze], by simp [World.freeze], fun k _ hk => freeze_other w g _ k (by simpa using hk), ?_, by simp, by simp⟩
    simpa using freeze_heap w g l.length l.toArray tt hg
  simpa using H.app1 h2
/-- '[]byte("..")' of a constant: the row gets a mark. -/
theorem ow_mark {a b : Nat} (H : St w0 X ([(g, Rw tt l)] :: L) w) {e : TypeId} (hu : P.underlying t = some (.slice e)) (he : P.underlying e = some (.int .u8)) (hx : ev n f x = .slice (some (bs g)) a b) :
    OW P n f (.convert t t x) ty w (fun u w' => u = .slice (some (bs g)) a b ∧ St w0 X ([(g, Mk tt l)] :: L) w') := by
  refine ow_of_y (v := .slice (some (bs g)) a b) (w' := w.freeze { block := g, off := l.length } 1) ?_ ⟨rfl, H.mark⟩
  intro o ho _
  have hg : w.heap[g]? = some (Rw tt l) := H.get 0 rfl
  simp [execOp, ho, hx, convert, run_underlying hu, run_underlying he, markStringish, World.shape?, hg]
theorem rd_mk {us : List Value} (H : St w0 X L w) (i : Nat) (hi : L[i]? = some [(g, Mk tt us)]) (hk : us.length = k) (hm : k ≤ maxLen) : Rd [] w 1 (.slice (some (bs g)) k k) k us := by
  have hg := H.get i hi
  refine ⟨by omega, ⟨_, _, rfl, Nat.le_refl _, hm⟩, fun j u hu => ?_, fun _ => ⟨by simp, _, _, _, rfl⟩⟩
  show w.cell? ((bs g).add j) = some u
  rw [bs_add]; simp [World.cell?, hg, hu]
theorem rd_mkF {α : Type} {F : α → Value} {us : List α} (H : St w0 X L w) (i : Nat) (hi : L[i]? = some [(g, Mk tt (us.map F))]) (hk : us.length = k) (hm : k ≤ maxLen) : Rd [] w 1 (.slice (some (bs g)) k k) us.length (us.map F) := by
  have := rd_mk (k := k) H i hi (by simp; omega) hm
  rw [hk]; exact this
/-- A block of ours as a slice, apart from another block of ours. -/
theorem rd_arr_away {α : Type} {F : α → Value} {us : List α} {g' : Nat} {o' : Obj} (H : St w0 X L w) (i j : Nat) (hi : L[i]? = some [(g, Rw tt (us.map F))]) (hj : L[j]? = some [(g', o')]) (hij : i ≠ j) (hk : us.length = k) (hm : k ≤ maxLen) :
    Rd [g'] w 1 (.slice (some (bs g)) k k) us.length (us.map F) := by
  have h := rd_arr H i hi hk hm
  refine ⟨h.len, h.shape, h.cell, fun h0 => ⟨?_, (h.off h0).2⟩⟩
  have hne : g ≠ g' := by
    have hp := List.pairwise_iff_getElem.1 H.dj
    obtain ⟨hi1, hi2⟩ := List.getElem?_eq_some_iff.1 hi
    obtain ⟨hj1, hj2⟩ := List.getElem?_eq_some_iff.1 hj
    rcases Nat.lt_or_gt_of_ne hij with h' | h'
    · exact hp i j hi1 hj1 h' (g, Rw tt (us.map F)) (by rw [hi2]; simp) (g', o') (by rw [hj2]; simp)
    · exact fun e => hp j i hj1 hi1 h' (g', o') (by rw [hj2]; simp) (g, Rw tt (us.map F)) (by rw [hi2]; simp) e.symm
  simpa [sp] using hne
end

abbrev jefe : List UInt8 := [74, 101, 102, 101]
abbrev what : List UInt8 := [119, 104, 97, 116, 32, 100, 111, 32, 121, 97, 32, 119, 97, 110, 116, 32, 102, 111, 114, 32, 110, 111, 116, 104, 105, 110, 103, 63]
theorem fixed_ok : (hmac jefe what).getD 0 0 = 91 ∧ (hmac jefe what).getD 1 0 = 220 ∧ (hmac jefe what).getD 2 0 = 193 ∧ (hmac jefe what).getD 31 0 = 67 := by
  have h : hmac jefe what = [91, 220, 193, 70, 191, 96, 117, 78, 106, 4, 36, 38, 8, 149, 117, 199, 90, 0, 63, 8, 157, 39, 57, 131, 157, 236, 88, 185, 100, 236, 56, 67] := by kernel_rfl
  rw [h]
  decide
end Go.Proofs.Ytdcmbcjkdhdohaa
