/- The block of a sha.Digest, and what is known of it when it has taken a row of bytes in. -/
import Derived.Test.YtdcmbcjkdhdohaaSlc
import Derived.Test.YtdcmbcjkdhdohaaSha
namespace Go.Proofs.Ytdcmbcjkdhdohaa
open Go Go.RowKit

def dig (s : S8) (r : List UInt8) (m : Nat) : List Value := s.list.map U32 ++ (r.map B8 ++ [I (m : Int)])
/-- What a digest keeps of a row's end. -/
def Dg (m r : List UInt8) : Prop := r.length = 64 ∧ r.take (m.length % 64) = rem m

section
variable {s s' : S8} {r r' : List UInt8} {m m' : Nat}
@[simp] theorem list8 (s : S8) : s.list.length = 8 := rfl
theorem dig_length (h : r.length = 64) : (dig s r m).length = 73 := by simp [dig, list8, h]
theorem dig_num (h : r.length = 64) : (dig s r m)[72]? = some (I (m : Int)) := by
  simp [dig, list8, h]
theorem dig_set (h : r.length = 64) : (dig s r m).set 72 (I (m' : Int)) = dig s r m' := by
  simp [dig, list8, h]
theorem dig_words {j : Nat} {u : Value} (h : (s.list.map U32)[j]? = some u) : (dig s r m)[0 + j]? = some u := by
  have hj : j < (s.list.map U32).length := (List.getElem?_eq_some_iff.1 h).1
  rw [Nat.zero_add, dig, List.getElem?_append_left hj]
  exact h
theorem dig_setw : (dig s r m).take 0 ++ s'.list.map U32 ++ (dig s r m).drop (0 + 8) = dig s' r m := by
  have : (dig s r m).drop (0 + 8) = r.map B8 ++ [I (m : Int)] := List.drop_left' (by simp [list8])
  rw [this]; simp [dig]
theorem dig_rest (h : r.length = 64) : ((dig s r m).drop 8).take 64 = r.map B8 := by
  have : (dig s r m).drop 8 = r.map B8 ++ [I (m : Int)] := List.drop_left' (by simp [list8])
  rw [this]
  exact List.take_left' (by simp [h])
/-- Bytes laid into the rest, from o on. -/
def lay (r : List UInt8) (o : Nat) (l : List UInt8) : List UInt8 := r.take o ++ l ++ r.drop (o + l.length)
theorem lay_length {o : Nat} {l : List UInt8} (h : o + l.length ≤ r.length) : (lay r o l).length = r.length := by
  simp [lay]; omega
theorem dig_copy {o k : Nat} {l : List UInt8} (h : r.length = 64) (hk : k = l.length) (hfit : o + k ≤ 64) :
    (dig s r m).take (8 + o) ++ (l.map B8) ++ (dig s r m).drop (8 + o + k) = dig s (lay r o l) m := by
  subst hk
  have h8 : (s.list.map U32).length = 8 := by simp [list8]
  have e1 : (dig s r m).take (8 + o) = s.list.map U32 ++ (r.take o).map B8 := by
    rw [dig, List.take_append, h8, List.take_of_length_le (by omega), show 8 + o - 8 = o by omega, List.take_append_of_le_length (by simp; omega), List.map_take]
  have e2 : (dig s r m).drop (8 + o + l.length) = (r.drop (o + l.length)).map B8 ++ [I (m : Int)] := by
    rw [dig, List.drop_append, h8, List.drop_eq_nil_of_le (by omega), show 8 + o + l.length - 8 = o + l.length by omega, List.drop_append_of_le_length (by simp; omega), List.map_drop, List.nil_append]
  rw [e1, e2]
  simp [dig, lay]
theorem lay_take {o : Nat} {l : List UInt8} (h : o ≤ r.length) : (lay r o l).take (o + l.length) = r.take o ++ l :=
  List.take_left' (by simp; omega)
theorem lay_all {o : Nat} {l : List UInt8} (h : o + l.length = r.length) : lay r o l = r.take o ++ l := by
  simp [lay, h]
end

/-- Bytes that end ahead of a piece's end. -/
theorem Dg.short {m r l : List UInt8} (h : Dg m r) (hs : m.length % 64 + l.length < 64) : Dg (m ++ l) (lay r (m.length % 64) l) := by
  have h1 := h.1
  refine ⟨by rw [lay_length (by omega)]; exact h.1, ?_⟩
  have e : (m ++ l).length % 64 = m.length % 64 + l.length := by rw [List.length_append]; omega
  rw [e, lay_take (by omega), h.2, rem_short m l hs]
/-- A piece that is full. -/
theorem Dg.full {m r l : List UInt8} (h : Dg m r) (hs : m.length % 64 + l.length = 64) : comp (ab m) (lay r (m.length % 64) l) = ab (m ++ l) := by
  have h1 := h.1
  rw [lay_all (by omega), h.2, ab_full m l (by rw [List.length_append, rem_length]; omega)]
theorem ab_next {m : List UInt8} (l : List UInt8) (h : m.length % 64 = 0) (hl : 64 ≤ l.length) : comp (ab m) (l.take 64) = ab (m ++ l.take 64) := by
  have h2 := ab_full m (l.take 64) (by rw [rem_nil h]; simp; omega)
  rw [h2, rem_nil h]; rfl
theorem Dg.end_ {m r l : List UInt8} (h0 : m.length % 64 = 0) (hr : r.length = 64) (hl : l.length < 64) : Dg (m ++ l) (lay r 0 l) := by
  refine ⟨by rw [lay_length (by omega)]; exact hr, ?_⟩
  have e : (m ++ l).length % 64 = 0 + l.length := by rw [List.length_append]; omega
  rw [e, lay_take (by omega), rem_short m l (by omega), rem_nil h0]
  simp

section
variable {w0 w : World} {X : List Nat} {L : List Part} {s n : Nat} {v : Value} {cs : List Value} {l : List UInt8} {E : Part} {e g : Nat} {o : Obj}
/-- What came in does not lie in a block of ours. -/
theorem Rd.away (hR : Rd X w0 s v n cs) (H : St w0 X L w) (i : Nat) (hi : L[i]? = some [(g, o)]) : Rd [g] w s v n cs := by
  have h := hR.st H
  refine ⟨h.len, h.shape, h.cell, fun h0 => ⟨fun hm => ?_, (h.off h0).2⟩⟩
  have hg : (sp v).block = g := by simpa using hm
  have hx := (hR.off h0).1
  have hlt := hR.blk h0
  exact hx (hg ▸ H.new _ (List.mem_of_getElem? hi) (g, o) (by simp) (hg ▸ hlt))
theorem OS.away (ho : OS e s v n cs E) (H : St w0 X L w) {i j : Nat} (hi : L[i]? = some E) (hj : L[j]? = some [(g, o)]) (hij : i ≠ j) : Rd [g] w s v n cs := by
  have h := ho.rd H i hi
  refine ⟨h.len, h.shape, h.cell, fun h0 => ⟨fun hm => ?_, (h.off h0).2⟩⟩
  have hg : (sp v).block = g := by simpa using hm
  rcases ho with ⟨rfl, rfl, rfl, -⟩ | ⟨g', cap, cur, rfl, rfl, -⟩
  · simp at h0
  · have hg' : g' = g := hg
    obtain ⟨hi1, hi2⟩ := List.getElem?_eq_some_iff.1 hi
    obtain ⟨hj1, hj2⟩ := List.getElem?_eq_some_iff.1 hj
    rcases Nat.lt_or_gt_of_ne hij with hlt | hlt
    · exact (List.pairwise_iff_getElem.1 H.dj i j hi1 hj1 hlt) (g', Rw e cur) (by rw [hi2]; simp) (g, o) (by rw [hj2]; simp) hg'
    · exact (List.pairwise_iff_getElem.1 H.dj j i hj1 hi1 hlt) (g, o) (by rw [hj2]; simp) (g', Rw e cur) (by rw [hi2]; simp) hg'.symm
theorem rdb_suf {a : Nat} (hR : Rd X w 1 v l.length (l.map B8)) (h : a ≤ l.length) : Rd X w 1 (slv 1 a l.length v) (l.drop a).length ((l.drop a).map B8) := by
  have := hR.slv h (Nat.le_refl _)
  rw [Nat.mul_one, Nat.mul_one, ← List.map_drop, List.take_of_length_le (by simp)] at this
  rwa [List.length_drop]
theorem rdb_pre {b : Nat} (hR : Rd X w 1 v l.length (l.map B8)) (h : b ≤ l.length) : Rd X w 1 (slv 1 0 b v) (l.take b).length ((l.take b).map B8) := by
  have := hR.slv (Nat.zero_le b) h
  rw [Nat.zero_mul, List.drop_zero, Nat.mul_one, Nat.sub_zero, ← List.map_take] at this
  rwa [List.length_take, Nat.min_eq_left h]
theorem rdb_mid {a b : Nat} (hR : Rd X w 1 v l.length (l.map B8)) (h1 : a ≤ b) (h : b ≤ l.length) : Rd X w 1 (slv 1 a b v) ((l.drop a).take (b - a)).length (((l.drop a).take (b - a)).map B8) := by
  have := hR.slv h1 h
  rw [Nat.mul_one, Nat.mul_one, ← List.map_drop, ← List.map_take] at this
  rwa [List.length_take, List.length_drop, Nat.min_eq_left (by omega)]
theorem slv_own {k h o n cap : Nat} (hl : k < cap) : slv 1 k h (.slice (some ((bs g).add o)) n cap) = .slice (some ((bs g).add (o + k))) (h - k) (cap - k) := by
  have : cap ≠ k := by omega
  simp [slv, this, add_add]
end
end Go.Proofs.Ytdcmbcjkdhdohaa
