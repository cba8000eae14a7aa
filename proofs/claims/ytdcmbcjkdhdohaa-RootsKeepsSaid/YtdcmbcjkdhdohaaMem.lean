/- Memory: which blocks a call holds for its own ('St'), what is read of a slice that came in ('Rd'), and the operations that read, write and make memory. -/
import Derived.Test.YtdcmbcjkdhdohaaWords
import Derived.Laws.CopyRow
import Derived.Laws.AppendOwn
import Derived.Laws.MakeOwn
import Derived.Laws.Tables
import Derived.Laws.Rows
namespace Go.Proofs.Ytdcmbcjkdhdohaa
open Go Go.RowKit

abbrev Part := List (Nat × Obj)
abbrev Rw (t : TypeId) (l : List Value) : Obj := .cells l.toArray t (0, 0)
/-- The head of a block. -/
abbrev bs (g : Nat) : Addr := ⟨g, 0, none⟩
abbrev Ad (p : Addr) (k : Nat) : Value := .pointer (some (p.add k))

theorem add_add (p : Addr) (i j : Nat) : (p.add i).add j = p.add (i + j) := by
  unfold Addr.add
  by_cases hi : i = 0
  · subst hi; simp
  · by_cases hj : j = 0
    · subst hj; simp [hi]
    · simp [hi, hj, Nat.add_assoc]
theorem add_zero (p : Addr) : p.add 0 = p := rfl
theorem bs_add (g k : Nat) : (bs g).add k = ⟨g, k, none⟩ := by
  unfold Addr.add
  by_cases hk : k = 0
  · subst hk; rfl
  · simp [hk]

/-- From w0 to w nothing that was there has changed but what stands in the blocks X; the blocks of L hold what is told, and no two parts of L share a block. -/
structure St (w0 : World) (X : List Nat) (L : List Part) (w : World) : Prop where
  os : w.os = w0.os
  tape : w.tape = w0.tape
  output : w.output = w0.output
  size : w0.heap.size ≤ w.heap.size
  keep : ∀ k, k < w0.heap.size → k ∉ X → w.heap[k]? = w0.heap[k]?
  own : ∀ E ∈ L, ∀ p ∈ E, w.heap[p.1]? = some p.2
  new : ∀ E ∈ L, ∀ p ∈ E, p.1 < w0.heap.size → p.1 ∈ X
  dj : L.Pairwise (fun E F => ∀ p ∈ E, ∀ q ∈ F, p.1 ≠ q.1)

section
variable {w0 w w' : World} {X : List Nat} {L L' : List Part} {E : Part} {g : Nat} {o o' : Obj}

theorem St.refl (w : World) : St w [] [] w := ⟨rfl, rfl, rfl, Nat.le_refl _, fun _ _ _ => rfl, by simp, by simp, .nil⟩
/-- A call that may write into one block that came in. -/
theorem St.init (h : w.heap[g]? = some o) : St w [g] [[(g, o)]] w :=
  ⟨rfl, rfl, rfl, Nat.le_refl _, fun _ _ _ => rfl, by simpa using h, by simp, by simp⟩
theorem St.below (H : St w0 [] L w) : Below w0.heap.size w0 w := ⟨H.os, H.tape, H.output, H.size, fun k hk => H.keep k hk (by simp)⟩
theorem St.of_below (h : Below w.heap.size w w') : St w [] [] w' := ⟨h.os, h.tape, h.output, h.size, fun k hk _ => h.block k hk, by simp, by simp, .nil⟩
theorem St.draw (H : St w0 X L w) : St w0 X L { w with drawn := w.drawn + 1 } := ⟨H.os, H.tape, H.output, H.size, H.keep, H.own, H.new, H.dj⟩
theorem St.perm (H : St w0 X L w) (hp : L.Perm L') : St w0 X L' w :=
  ⟨H.os, H.tape, H.output, H.size, H.keep, fun E hE => H.own E (hp.mem_iff.2 hE), fun E hE => H.new E (hp.mem_iff.2 hE),
   (hp.pairwise_iff (fun h p hp q hq e => h q hq p hp e.symm)).1 H.dj⟩
theorem St.sub (H : St w0 X L w) (hs : L'.Sublist L) : St w0 X L' w :=
  ⟨H.os, H.tape, H.output, H.size, H.keep, fun E hE => H.own E (hs.subset hE), fun E hE => H.new E (hs.subset hE), H.dj.sublist hs⟩
theorem St.drop (H : St w0 X (E :: L) w) : St w0 X L w := H.sub (List.sublist_cons_self E L)
theorem St.none (H : St w0 X L w) : St w0 X [] w := H.sub (List.nil_sublist L)
theorem perm_foc : ∀ (L : List Part) (i : Nat) (E : Part), L[i]? = some E → L.Perm (E :: L.eraseIdx i)
  | [], i, E, h => by simp at h
  | F :: L, 0, E, h => by simp at h; subst h; exact .refl _
  | F :: L, i + 1, E, h => by
    simp at h
    exact ((perm_foc L i E h).cons F).trans (.swap E F _)
/-- Part i to the front. -/
theorem St.foc (H : St w0 X L w) (i : Nat) (hi : L[i]? = some E) (hL : L.eraseIdx i = L') : St w0 X (E :: L') w := hL ▸ H.perm (perm_foc L i E hi)
theorem St.get (H : St w0 X L w) (i : Nat) (hi : L[i]? = some [(g, o)]) : w.heap[g]? = some o := H.own _ (List.mem_of_getElem? hi) (g, o) (by simp)
theorem St.lt (H : St w0 X L w) (hE : E ∈ L) {p : Nat × Obj} (hp : p ∈ E) : p.1 < w.heap.size := (Array.getElem?_eq_some_iff.1 (H.own E hE p hp)).1

/-- Behind a call that leaves all that was there. -/
theorem St.call (H : St w0 X L w) (hb : Below w.heap.size w w') : St w0 X L w' :=
  ⟨hb.os.trans H.os, hb.tape.trans H.tape, hb.output.trans H.output, Nat.le_trans H.size hb.size,
   fun k hk hx => (hb.block k (Nat.lt_of_lt_of_le hk H.size)).trans (H.keep k hk hx),
   fun E hE p hp => (hb.block p.1 (H.lt hE hp)).trans (H.own E hE p hp), H.new, H.dj⟩

/-- Behind a call that may write into part E of ours, and hands back the parts L'. -/
theorem St.appE (H : St w0 X (E :: L) w) (H' : St w (E.map (·.1)) L' w') : St w0 X (L' ++ L) w' := by
  have hfar : ∀ F ∈ L, ∀ p ∈ F, p.1 ∉ E.map (·.1) := by
    intro F hF p hp hm
    obtain ⟨q, hq, e⟩ := List.mem_map.1 hm
    exact (List.pairwise_cons.1 H.dj).1 F hF q hq p hp e
  refine ⟨H'.os.trans H.os, H'.tape.trans H.tape, H'.output.trans H.output, Nat.le_trans H.size H'.size, fun k hk hx => ?_, fun F hF p hp => ?_, fun F hF p hp hlt => ?_, ?_⟩
  · refine (H'.keep k (Nat.lt_of_lt_of_le hk H.size) fun hm => ?_).trans (H.keep k hk hx)
    obtain ⟨q, hq, e⟩ := List.mem_map.1 hm
    exact hx (e ▸ H.new E (by simp) q hq (by omega))
  · rcases List.mem_append.1 hF with h | h
    · exact H'.own F h p hp
    · exact (H'.keep p.1 (H.lt (List.mem_cons_of_mem _ h) hp) (hfar F h p hp)).trans (H.own F (List.mem_cons_of_mem _ h) p hp)
  · rcases List.mem_append.1 hF with h | h
    · have hm := H'.new F h p hp (Nat.lt_of_lt_of_le hlt H.size)
      obtain ⟨q, hq, e⟩ := List.mem_map.1 hm
      exact e ▸ H.new E (by simp) q hq (by omega)
    · exact H.new F (List.mem_cons_of_mem _ h) p hp hlt
  · rw [List.pairwise_append]
    refine ⟨H'.dj, (List.pairwise_cons.1 H.dj).2, fun F hF G hG p hp q hq e => ?_⟩
    have hlt := H.lt (List.mem_cons_of_mem _ hG) hq
    exact hfar G hG q hq (e ▸ H'.new F hF p hp (by omega))
theorem St.app (H : St w0 X L w) (H' : St w [] L' w') : St w0 X (L' ++ L) w' := by
  have h : St w0 X ([] :: L) w := ⟨H.os, H.tape, H.output, H.size, H.keep, fun E hE => by
    rcases List.mem_cons.1 hE with rfl | h
    · simp
    · exact H.own E h, fun E hE => by
    rcases List.mem_cons.1 hE with rfl | h
    · simp
    · exact H.new E h, List.pairwise_cons.2 ⟨by simp, H.dj⟩⟩
  exact h.appE H'
theorem St.app1 (H : St w0 X ([(g, o)] :: L) w) (H' : St w [g] L' w') : St w0 X (L' ++ L) w' := H.appE (E := [(g, o)]) H'

theorem St.alloc (H : St w0 X L w) (o : Obj) : St w0 X ([(w.heap.size, o)] :: L) (w.alloc o) := by
  have h2 : St w [] [[(w.heap.size, o)]] (w.alloc o) := ⟨rfl, rfl, rfl, by simp, fun k hk _ => heap_alloc_old w o k hk, by simpa using heap_alloc_new w o, by simp, by simp⟩
  simpa using H.app h2
theorem St.setRow {l l' : List Value} {t : TypeId} (H : St w0 X ([(g, Rw t l)] :: L) w) : St w0 X ([(g, Rw t l')] :: L) (w.setRow g l'.toArray) := by
  have hg : w.heap[g]? = some (Rw t l) := H.get 0 rfl
  have h2 : St w [g] [[(g, Rw t l')]] (w.setRow g l'.toArray) := ⟨rfl, rfl, rfl, by simp, fun k _ hk => setRow_other w g k _ (by simpa using hk),
    by simpa using setRow_heap w g _ l'.toArray t (0, 0) hg, by simp, by simp⟩
  simpa using H.app1 h2

theorem cell_rw {t : TypeId} {l : List Value} (h : w.heap[g]? = some (Rw t l)) (k : Nat) : w.cell? ((bs g).add k) = l[k]? := by
  rw [bs_add]; simp [World.cell?, h]
/-- A cell of a block of ours. -/
theorem St.cell {t : TypeId} {l : List Value} {u : Value} {k : Nat} (H : St w0 X L w) (i : Nat) (hi : L[i]? = some [(g, Rw t l)]) (hu : l[k]? = some u) : w.cell? ((bs g).add k) = some u :=
  (cell_rw (H.get i hi) k).trans hu
end

/-! ### Slices that are read -/
/-- The address in a slice's value. -/
def sp : Value → Addr
  | .slice (some p) _ _ => p
  | _ => bs 0
/-- v is a slice of n elements of s cells each; its cells read as cs, all of them in blocks that X does not hold. -/
structure Rd (X : List Nat) (w : World) (s : Nat) (v : Value) (n : Nat) (cs : List Value) : Prop where
  len : cs.length = n * s
  shape : ∃ a cap, v = .slice a n cap ∧ n ≤ cap ∧ cap ≤ maxLen
  cell : ∀ j u, cs[j]? = some u → w.cell? ((sp v).add j) = some u
  off : 0 < cs.length → (sp v).block ∉ X ∧ ∃ p n' cap, v = .slice (some p) n' cap

section
variable {w0 w w' : World} {X Y' : List Nat} {L : List Part} {s n : Nat} {v : Value} {cs : List Value}
theorem Rd.blk (h : Rd X w s v n cs) (h0 : 0 < cs.length) : (sp v).block < w.heap.size := by
  have := h.cell 0 cs[0] (by simp [h0])
  exact World.block_lt_of_cell? w _ this
theorem add_block (p : Addr) (j : Nat) : (p.add j).block = p.block := by unfold Addr.add; split <;> rfl
theorem Rd.st (h : Rd X w0 s v n cs) (H : St w0 X L w) : Rd X w s v n cs :=
  ⟨h.len, h.shape, fun j u hu => by
    have h0 : 0 < cs.length := by have := (List.getElem?_eq_some_iff.1 hu).1; omega
    have hk := H.keep (sp v).block (h.blk h0) (h.off h0).1
    exact (World.cell?_of_block (w := w0) (by rw [add_block]; exact hk)).trans (h.cell j u hu), h.off⟩
theorem Rd.below (h : Rd X w0 s v n cs) (H : Below w0.heap.size w0 w) : Rd X w s v n cs :=
  ⟨h.len, h.shape, fun j u hu => by
    have h0 : 0 < cs.length := by have := (List.getElem?_eq_some_iff.1 hu).1; omega
    exact (World.cell?_of_block (w := w0) (by rw [add_block]; exact H.block _ (h.blk h0))).trans (h.cell j u hu), h.off⟩
theorem Rd.nil (h : Rd X w s v n cs) : Rd [] w s v n cs := ⟨h.len, h.shape, h.cell, fun h0 => ⟨by simp, (h.off h0).2⟩⟩
/-- A slice over the head of a block of ours. -/
theorem St.rd {t : TypeId} {l : List Value} {g cap : Nat} (H : St w0 X L w) (i : Nat) (hi : L[i]? = some [(g, Rw t l)]) (hl : n * s ≤ l.length) (hc : n ≤ cap ∧ cap ≤ maxLen) :
    Rd [] w s (.slice (some (bs g)) n cap) n (l.take (n * s)) :=
  ⟨by simp; omega, ⟨_, _, rfl, hc⟩, (fun j u hu => by
    rw [List.getElem?_take] at hu
    by_cases hj : j < n * s
    · rw [if_pos hj] at hu; exact H.cell i hi hu
    · rw [if_neg hj] at hu; cases hu), fun _ => ⟨by simp, _, _, _, rfl⟩⟩
/-- What 'x[l:h]' leaves, x a slice of elements of s cells. -/
def slv (s l h : Nat) : Value → Value
  | .slice a _ cap => .slice (if cap = l then a else a.map (·.add (l * s))) (h - l) (cap - l)
  | _ => undef
theorem Rd.slv {l h : Nat} (hR : Rd X w s v n cs) (hl : l ≤ h) (hh : h ≤ n) : Rd X w s (slv s l h v) (h - l) ((cs.drop (l * s)).take ((h - l) * s)) := by
  obtain ⟨a, cap, rfl, hnc, hcm⟩ := hR.shape
  have hlen := hR.len
  have e1 : h * s ≤ n * s := Nat.mul_le_mul_right _ hh
  have e2 : (h - l) * s = h * s - l * s := Nat.sub_mul h l s
  have e3 : l * s ≤ h * s := Nat.mul_le_mul_right _ hl
  have e4 : ((cs.drop (l * s)).take ((h - l) * s)).length = (h - l) * s := by simp; omega
  have key : 0 < (h - l) * s → cap ≠ l ∧ ∃ p, a = some p := by
    intro h0
    have h1 : 0 < h - l := Nat.pos_of_mul_pos_right h0
    have h2 : 0 < cs.length := by omega
    obtain ⟨-, p, n', cap', e⟩ := hR.off h2
    exact ⟨by omega, p, by injection e⟩
  refine ⟨e4, ⟨_, _, rfl, by omega, by omega⟩, fun j u hu => ?_, fun h0 => ?_⟩
  · have hj := (List.getElem?_eq_some_iff.1 hu).1
    rw [e4] at hj
    obtain ⟨k1, p, rfl⟩ := key (by omega)
    have hp : sp (Ytdcmbcjkdhdohaa.slv s l h (.slice (some p) n cap)) = p.add (l * s) := by simp [Ytdcmbcjkdhdohaa.slv, sp, k1]
    rw [hp, add_add]
    refine hR.cell (l * s + j) u ?_
    rw [List.getElem?_take, if_pos hj, List.getElem?_drop] at hu
    exact hu
  · rw [e4] at h0
    obtain ⟨k1, p, rfl⟩ := key h0
    have hp : Ytdcmbcjkdhdohaa.slv s l h (.slice (some p) n cap) = .slice (some (p.add (l * s))) (h - l) (cap - l) := by simp [Ytdcmbcjkdhdohaa.slv, k1]
    have h2 : 0 < cs.length := by omega
    have := (hR.off h2).1
    rw [hp]
    exact ⟨by simpa [sp, add_block] using this, _, _, _, rfl⟩
end

/-! ### Operations -/
section
variable {P : Program} {n : Nat} {f : Nat → Value} {ty t : TypeId} {w w0 : World} {x y ix : Operand} {v : Value} {X : List Nat} {L : List Part}

/-- Type t is neither a struct nor an array. -/
def scal (P : Program) (t : TypeId) : Prop := ∃ d, P.underlying t = some d ∧ (match d with | .struct _ | .array _ _ => true | _ => false) = false
def aggr (P : Program) (t : TypeId) : Prop := ∃ d, P.underlying t = some d ∧ (match d with | .struct _ | .array _ _ => true | _ => false) = true
def Sz (P : Program) (t : TypeId) (s : Nat) : Prop := ∃ i, P.info? t = some i ∧ i.size = s
def Zr (P : Program) (t : TypeId) (z : Value) : Prop := ∃ i, P.info? t = some i ∧ i.zero = some z
def Bt (P : Program) (t : TypeId) (b : Nat) : Prop := ∃ i, P.info? t = some i ∧ i.bytes = b

theorem run_isAgg_false (h : scal P t) : (isAgg t).run P w = .ok false w := by
  obtain ⟨d, hu, hd⟩ := h
  unfold isAgg
  rw [Sem.run_bind, run_underlying hu w]
  cases d <;> simp_all
theorem run_isAgg_true (h : aggr P t) : (isAgg t).run P w = .ok true w := by
  obtain ⟨d, hu, hd⟩ := h
  unfold isAgg
  rw [Sem.run_bind, run_underlying hu w]
  cases d <;> simp_all
theorem run_sizeOf {s : Nat} (h : Sz P t s) : (sizeOf t).run P w = .ok s w := by
  obtain ⟨i, hi, rfl⟩ := h
  simp [sizeOf, typeInfo, hi]
theorem run_zero {z : Value} (h : Zr P t z) : (zeroValue t).run P w = .ok z w := by
  obtain ⟨i, hi, hz⟩ := h
  simp [zeroValue, typeInfo, hi, hz]

theorem y_load {p : Addr} {k : Nat} {u : Value} (ht : scal P t) (hx : ev n f x = Ad p k) (hc : w.cell? (p.add k) = some u) : Y P n f (.load t x) ty w u w := by
  intro o ho _
  simp [execOp, ho, hx, Instr.loadAt, Instr.sureAddr, loadVar, run_isAgg_false ht, hc]
theorem y_loadA {p : Addr} {k s : Nat} {us : List Value} (ht : aggr P t) (hs : Sz P t s) (hl : us.length = s) (hx : ev n f x = Ad p k)
    (hc : ∀ j u, us[j]? = some u → w.cell? (p.add (k + j)) = some u) : Y P n f (.load t x) ty w (.agg us.toArray) w := by
  intro o ho _
  have h := run_loadCells_list (P := P) w (p.add k) us (fun j u hu => by rw [add_add]; exact hc j u hu)
  rw [hl] at h
  simp [execOp, ho, hx, Instr.loadAt, Instr.sureAddr, loadVar, run_isAgg_true ht, run_sizeOf hs, h]

/-- 'x[i]': where it stands. -/
theorem y_ixS {p : Addr} {e : TypeId} {len cap s m : Nat} {k : IntKind} {i : Int} (hu : P.underlying t = some (.slice e)) (hs : Sz P e s) (hx : ev n f x = .slice (some p) len cap)
    (hi : ev n f ix = .int k i) (hm : i = (m : Int)) (hlt : m < len) : Y P n f (.indexAddr t x ix) ty w (Ad p (m * s)) w := by
  intro o ho _
  subst hm
  have h1 : (0 : Int) ≤ (m : Int) ∧ (m : Int) < (len : Int) := by omega
  simp [execOp, ho, hx, hi, Instr.indexAt, asIntOf, run_underlying hu, run_sizeOf hs, hlt]
theorem y_ixR {e : TypeId} {s m len : Nat} {cs : List Value} {k : IntKind} {i : Int} (hu : P.underlying t = some (.slice e)) (hs : Sz P e s) (hR : Rd X w s v len cs) (hs0 : 0 < s) (hx : ev n f x = v)
    (hi : ev n f ix = .int k i) (hm : i = (m : Int)) (hlt : m < len) : Y P n f (.indexAddr t x ix) ty w (Ad (sp v) (m * s)) w := by
  have h0 : 0 < cs.length := by rw [hR.len]; exact Nat.mul_pos (by omega) hs0
  obtain ⟨-, p, n', cap', rfl⟩ := hR.off h0
  obtain ⟨a, cap, e, -⟩ := hR.shape
  injection e with e1 e2 e3
  subst e2
  exact y_ixS hu hs hx hi hm hlt
theorem y_ixA {p : Addr} {e : TypeId} {len s m j : Nat} {k : IntKind} {i : Int} (hu : P.underlying t = some (.array len e)) (hs : Sz P e s) (hx : ev n f x = Ad p j)
    (hi : ev n f ix = .int k i) (hm : i = (m : Int)) (hlt : m < len) : Y P n f (.indexAddr t x ix) ty w (Ad p (j + m * s)) w := by
  intro o ho _
  subst hm
  have h1 : (0 : Int) ≤ (m : Int) ∧ (m : Int) < (len : Int) := by omega
  simp [execOp, ho, hx, hi, Instr.indexAt, asIntOf, run_underlying hu, run_sizeOf hs, hlt, Instr.sureAddr, add_add]
theorem y_fld {p : Addr} {j i off : Nat} {fs : Array Field} {fd : Field} {s : Nat} (hu : P.underlying t = some (.struct fs)) (hf : fs[i]? = some fd) (ho : fd.offset = off) (hs : Sz P fd.type s) (hs0 : s ≠ 0) (hx : ev n f x = Ad p j) :
    Y P n f (.fieldAddr t x i) ty w (Ad p (j + off)) w := by
  intro o hop _
  subst ho
  simp [execOp, hop, hx, Instr.fieldAt, run_underlying hu, hf, Instr.sureAddr, fieldPlace, run_sizeOf hs, hs0, add_add]
theorem y_len {a : Option Addr} {e : TypeId} {len cap : Nat} {ty2 : TypeId} (hu : P.underlying t = some (.slice e)) (hx : ev n f x = .slice a len cap) :
    Y P n f (.call { callee := .builtin .len, args := #[x], argTypes := #[t] }) ty2 w (I len) w := by
  intro o ho _
  simp [execOp, ho, resolve, invoke, builtin, Builtin.len_, hx, run_underlying hu, goInt]
theorem y_lenR {e : TypeId} {s len : Nat} {cs : List Value} {ty2 : TypeId} (hu : P.underlying t = some (.slice e)) (hR : Rd X w s v len cs) (hx : ev n f x = v) :
    Y P n f (.call { callee := .builtin .len, args := #[x], argTypes := #[t] }) ty2 w (I len) w := by
  obtain ⟨a, cap, rfl, -⟩ := hR.shape
  exact y_len hu hx
theorem y_lenStr {s : ByteArray} {ty2 : TypeId} (hu : P.underlying t = some .string) (hx : ev n f x = .string s) :
    Y P n f (.call { callee := .builtin .len, args := #[x], argTypes := #[t] }) ty2 w (I s.size) w := by
  intro o ho _
  simp [execOp, ho, resolve, invoke, builtin, Builtin.len_, hx, run_underlying hu, goInt]

/-! slicing -/
theorem sliceBound_ok {k : IntKind} {m b : Nat} {c : BoundsCode} (h : m ≤ b) : (Instr.sliceBound (.int k (m : Int)) b c).run P w = .ok m w := by
  simp [Instr.sliceBound, asIntOf, h]
/-- 'x[lo:hi]' of a slice; each bound may be left out (lo: 0, hi: its length). -/
theorem y_sl {a : Option Addr} {e : TypeId} {len cap s l h : Nat} {k1 k2 : IntKind} {lo hi : Option Operand} (hu : P.underlying t = some (.slice e)) (hs : Sz P e s) (hx : ev n f x = .slice a len cap)
    (hl : (lo = none ∧ l = 0) ∨ ∃ z, lo = some z ∧ ev n f z = .int k1 (l : Int)) (hh : (hi = none ∧ h = len) ∨ ∃ z, hi = some z ∧ ev n f z = .int k2 (h : Int)) (hlh : l ≤ h) (hhc : h ≤ cap) :
    Y P n f (.slice t x lo hi none) ty w (slv s l h (.slice a len cap)) w := by
  intro o ho _
  have e2 : (Instr.sliceBounds true len cap (lo.map (ev n f)) (hi.map (ev n f)) none).run P w = .ok (l, h, cap) w := by
    rcases hl with ⟨rfl, rfl⟩ | ⟨z, rfl, hz⟩ <;> rcases hh with ⟨rfl, rfl⟩ | ⟨z', rfl, hz'⟩ <;>
      simp [Instr.sliceBounds, *, sliceBound_ok hlh, sliceBound_ok hhc]
  simp [execOp, ho, hx, Instr.sliceAt, Instr.slice, run_underlying hu, e2, run_sizeOf hs, slv]
theorem y_slR {e : TypeId} {len s l h : Nat} {cs : List Value} {k1 k2 : IntKind} {lo hi : Option Operand} (hu : P.underlying t = some (.slice e)) (hs : Sz P e s) (hR : Rd X w s v len cs) (hx : ev n f x = v)
    (hl : (lo = none ∧ l = 0) ∨ ∃ z, lo = some z ∧ ev n f z = .int k1 (l : Int)) (hh : (hi = none ∧ h = len) ∨ ∃ z, hi = some z ∧ ev n f z = .int k2 (h : Int)) (hlh : l ≤ h) (hhc : h ≤ len) :
    Y P n f (.slice t x lo hi none) ty w (slv s l h v) w := by
  obtain ⟨a, cap, rfl, hnc, -⟩ := hR.shape
  exact y_sl hu hs hx hl hh hlh (by omega)
/-- 'x[lo:hi]' of an array in memory. -/
theorem y_slA {p : Addr} {e : TypeId} {len s l h : Nat} {k1 k2 : IntKind} {lo hi : Option Operand} (hu : P.underlying t = some (.array len e)) (hs : Sz P e s) (hx : ev n f x = Ad p 0)
    (hl : (lo = none ∧ l = 0) ∨ ∃ z, lo = some z ∧ ev n f z = .int k1 (l : Int)) (hh : (hi = none ∧ h = len) ∨ ∃ z, hi = some z ∧ ev n f z = .int k2 (h : Int)) (hlh : l ≤ h) (hhc : h ≤ len) :
    Y P n f (.slice t x lo hi none) ty w (slv s l h (.slice (some p) len len)) w := by
  intro o ho _
  have e2 : (Instr.sliceBounds false len len (lo.map (ev n f)) (hi.map (ev n f)) none).run P w = .ok (l, h, len) w := by
    rcases hl with ⟨rfl, rfl⟩ | ⟨z, rfl, hz⟩ <;> rcases hh with ⟨rfl, rfl⟩ | ⟨z', rfl, hz'⟩ <;>
      simp [Instr.sliceBounds, *, sliceBound_ok hlh, sliceBound_ok hhc]
  simp [execOp, ho, hx, Instr.sliceAt, run_underlying hu, e2, run_sizeOf hs, slv, Instr.sureAddr, add_zero]
  split <;> rfl

/-! stores and new blocks -/
theorem ow_store {g k j : Nat} {tt : TypeId} {l : List Value} {v : Value} (H : St w0 X ([(g, Rw tt l)] :: L) w) (hs : Sz P t 1) (hx : ev n f x = Ad (bs g) k) (hy : ev n f y = v) (h1 : v.oneCell' = true) (hj : k = j) (hk : j < l.length) :
    OW P n f (.store t x y) ty w (fun _ w' => St w0 X ([(g, Rw tt (l.set j v))] :: L) w') := by
  subst hj
  intro o K' Q ho _ hK
  have hg : w.heap[g]? = some (Rw tt l) := H.get 0 rfl
  have hc : v.cells = #[v] := by cases v <;> first | rfl | (simp [Value.oneCell'] at h1)
  have hst : (store ((bs g).add k) v).run P w = .ok () (w.setRow g (l.set k v).toArray) := by
    rw [bs_add, run_store P w _ v _ h1]
    have hcell : w.cell? ⟨g, k, none⟩ = some l[k] := by rw [← bs_add, cell_rw hg]; simp [hk]
    have hfr : w.frozen? ⟨g, k, none⟩ = false := by simp [World.frozen?, hg]
    simp [hcell, hfr, setCell_eq_setRow w g k _ tt (0, 0) v hg]
  have hr : (execOp (ev n f) o).run P w = .ok .skip (w.setRow g (l.set k v).toArray) := by
    simp [execOp, ho, hx, hy, Instr.storeAt, Instr.sureAddr, storeVar, hc, run_sizeOf hs, storeCells, add_zero, hst]
  unfold Oper.wp
  rw [eval_mkA, hr]
  exact hK undef _ H.setRow
/-- A whole struct or array is stored. -/
theorem ow_storeA {g k : Nat} {tt : TypeId} {l us : List Value} {s : Nat} (H : St w0 X ([(g, Rw tt l)] :: L) w) (hs : Sz P t s) (hl : us.length = s) (hx : ev n f x = Ad (bs g) k) (hy : ev n f y = .agg us.toArray)
    (h1 : ∀ u ∈ us, u.oneCell' = true) (hk : k + s ≤ l.length) :
    OW P n f (.store t x y) ty w (fun _ w' => St w0 X ([(g, Rw tt (l.take k ++ us ++ l.drop (k + s)))] :: L) w') := by
  intro o K' Q ho _ hK
  have hg : w.heap[g]? = some (Rw tt l) := H.get 0 rfl
  have hst := run_storeCells_at P g k tt us 0 l.toArray w hg (by simpa [hl] using hk) h1
  simp only [Nat.add_zero, hl] at hst
  have hr : (execOp (ev n f) o).run P w = .ok .skip (w.setRow g (l.take k ++ us ++ l.drop (k + s)).toArray) := by
    simp [execOp, ho, hx, hy, Instr.storeAt, Instr.sureAddr, storeVar, Value.cells, run_sizeOf hs, hl, bs_add, hst]
  unfold Oper.wp
  rw [eval_mkA, hr]
  exact hK undef _ H.setRow
theorem ow_alloc {z : Value} {l : List Value} (H : St w0 X L w) (hz : Zr P t z) (hl : z.cells = l.toArray) :
    OW P n f (.alloc t) ty w (fun u w' => ∃ g, u = Ad (bs g) 0 ∧ St w0 X ([(g, Rw t l)] :: L) w') := by
  refine ow_of_y (v := Ad (bs w.heap.size) 0) (w' := w.alloc (Rw t l)) ?_ ⟨_, rfl, H.alloc _⟩
  intro o ho _
  simp [execOp, ho, Instr.alloc, run_zero hz, newVar, newRow, hl, add_zero]
theorem ow_box {l : List Value} (H : St w0 X L w) (hx : ev n f x = v) (hl : v.cells = l.toArray) :
    OW P n f (.box t x) ty w (fun u w' => ∃ g, u = Ad (bs g) 0 ∧ St w0 X ([(g, Rw t l)] :: L) w') := by
  refine ow_of_y (v := Ad (bs w.heap.size) 0) (w' := w.alloc (Rw t l)) ?_ ⟨_, rfl, H.alloc _⟩
  intro o ho _
  simp [execOp, ho, Instr.box, newVar, newRow, hx, hl, add_zero]
/-- What a list of operands holds. -/
def Evs (n : Nat) (f : Nat → Value) : List Operand → List Value → Prop
  | [], [] => True
  | x :: xs, v :: vs => ev n f x = v ∧ Evs n f xs vs
  | _, _ => False
def EvP (n : Nat) (f : Nat → Value) : List (Nat × Operand) → List (Nat × Value) → Prop
  | [], [] => True
  | x :: xs, v :: vs => (x.1 = v.1 ∧ ev n f x.2 = v.2) ∧ EvP n f xs vs
  | _, _ => False
theorem evs_map : ∀ {xs : List Operand} {vs : List Value}, Evs n f xs vs → xs.map (ev n f) = vs
  | [], [], _ => rfl
  | x :: xs, v :: vs, h => by simp only [List.map_cons, h.1, evs_map h.2]
  | [], _ :: _, h => h.elim
  | _ :: _, [], h => h.elim
theorem evp_map : ∀ {xs : List (Nat × Operand)} {vs : List (Nat × Value)}, EvP n f xs vs → xs.map (fun q => (q.1, ev n f q.2)) = vs
  | [], [], _ => rfl
  | x :: xs, v :: vs, h => by simp only [List.map_cons, h.1.1, h.1.2, evp_map h.2]
  | [], _ :: _, h => h.elim
  | _ :: _, [], h => h.elim
theorem y_build {parts : List (Nat × Operand)} {pv : List (Nat × Value)} {us : List Value} (he : EvP n f parts pv) (hb : P.built t pv = some us.toArray) : Y P n f (.build t parts.toArray) ty w (.agg us.toArray) w := by
  intro o ho _
  have h := run_build (P := P) w t pv.toArray us.toArray (by simpa using hb)
  have e : (parts.toArray.map fun (i, x) => (i, ev n f x)) = pv.toArray := by
    rw [← evp_map he]; simp
  simp only [execOp, ho, e, Sem.run_bind, h, Result.andThen_ok, Sem.run_pure]

/-! calls -/
/-- Function k may be called. -/
def Fn (P : Program) (k : Nat) : Prop := ∃ fn, P.funcs[k]? = some fn ∧ (fn.name == "runtime.NumGoroutine") = false ∧ fn.body.isNone = false
theorem ow_call {k : Nat} {xs : List Operand} {ats : Array TypeId} {args : List Value} {fo : Operand} {K : Value → World → Prop} (hk : Fn P k) (hf : ev n f fo = .func (.func k) #[] #[])
    (hc : Calls P k args.toArray w (fun e w' => ∃ v, e = .returned v ∧ K v w')) (ha : Evs n f xs args) : OW P n f (.call { callee := .value fo, args := xs.toArray, argTypes := ats }) ty w K := by
  intro o K' Q ho _ hK
  obtain ⟨fn, h1, h2, h3⟩ := hk
  have hr : (execOp (ev n f) o).run P w = .ok (.enter k args.toArray) w := by
    simp only [Bool.eq_false_iff, ne_eq, beq_iff_eq] at h2
    cases hb : fn.body with
    | none => simp [hb] at h3
    | some c => simp [execOp, ho, resolve, hf, Deferred.ofValue, invoke, callFunc, h1, h2, hb, evs_map ha]
  unfold Oper.wp
  rw [eval_mkA, hr]
  refine Calls.mono hc fun e w' he => ?_
  obtain ⟨v, rfl, hv⟩ := he
  exact hK v w' hv
/-- A call of a function value with what it has captured. -/
theorem ow_callC {k : Nat} {xs : List Operand} {ats : Array TypeId} {args cap : List Value} {fo : Operand} {K : Value → World → Prop} (hk : Fn P k) (hf : ev n f fo = .func (.func k) #[] cap.toArray)
    (hc : Calls P k (args ++ cap).toArray w (fun e w' => ∃ v, e = .returned v ∧ K v w')) (ha : Evs n f xs args) : OW P n f (.call { callee := .value fo, args := xs.toArray, argTypes := ats }) ty w K := by
  intro o K' Q ho _ hK
  obtain ⟨fn, h1, h2, h3⟩ := hk
  have hr : (execOp (ev n f) o).run P w = .ok (.enter k (args ++ cap).toArray) w := by
    simp only [Bool.eq_false_iff, ne_eq, beq_iff_eq] at h2
    cases hb : fn.body with
    | none => simp [hb] at h3
    | some c => simp [execOp, ho, resolve, hf, Deferred.ofValue, invoke, callFunc, h1, h2, hb, evs_map ha]
  unfold Oper.wp
  rw [eval_mkA, hr]
  refine Calls.mono hc fun e w' he => ?_
  obtain ⟨v, rfl, hv⟩ := he
  exact hK v w' hv
end
end Go.Proofs.Ytdcmbcjkdhdohaa
