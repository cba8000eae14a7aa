/- Slices that a call makes and grows for itself ('OS'), and the operations append, make, copy and store on them. -/
import Derived.Test.YtdcmbcjkdhdohaaRet
import Derived.Deep.AppendSrc
namespace Go.Proofs.Ytdcmbcjkdhdohaa
open Go Go.RowKit

/-- v is a slice of n elements of type e (s cells each) whose cells read as cs; its block is part E, ours: or it is nil. -/
def OS (e : TypeId) (s : Nat) (v : Value) (n : Nat) (cs : List Value) (E : Part) : Prop :=
  (v = .slice none 0 0 ∧ n = 0 ∧ cs = [] ∧ E = []) ∨
  ∃ g cap cur, v = .slice (some (bs g)) n cap ∧ E = [(g, Rw e cur)] ∧ n ≤ cap ∧ cap ≤ maxLen ∧ cur.length = cap * s ∧ cur.take (n * s) = cs

section
variable {P : Program} {w w0 : World} {X : List Nat} {L : List Part} {E : Part} {e s n m : Nat} {v : Value} {cs news : List Value} {nn : Nat} {f : Nat → Value} {x y : Operand} {t tx ty : TypeId}

theorem OS.len (h : OS e s v n cs E) : cs.length = n * s := by
  rcases h with ⟨-, rfl, rfl, -⟩ | ⟨g, cap, cur, -, -, hn, -, hl, ht⟩
  · simp
  · rw [← ht, List.length_take, hl]
    exact Nat.min_eq_left (Nat.mul_le_mul_right _ hn)
theorem OS.nil (e s : Nat) : OS e s (.slice none 0 0) 0 [] [] := .inl ⟨rfl, rfl, rfl, rfl⟩
/-- What such a slice reads as. -/
theorem OS.rd (h : OS e s v n cs E) (H : St w0 X L w) (i : Nat) (hi : L[i]? = some E) : Rd [] w s v n cs := by
  have hl := h.len
  rcases h with ⟨rfl, rfl, rfl, -⟩ | ⟨g, cap, cur, rfl, rfl, hn, hm, hc, ht⟩
  · exact ⟨hl, ⟨_, _, rfl, Nat.le_refl _, by simp [maxLen]⟩, fun j u hu => by simp at hu, fun h0 => by simp at h0⟩
  · have := H.rd (n := n) (s := s) (cap := cap) i hi (by rw [hc]; exact Nat.mul_le_mul_right _ hn) ⟨hn, hm⟩
    rwa [ht] at this
theorem OS.bound (h : OS e s v n cs E) : n ≤ maxLen := by
  rcases h with ⟨-, rfl, -⟩ | ⟨g, cap, cur, -, -, hn, hm, -⟩
  · simp [maxLen]
  · omega
/-- A part of an array of ours, as a slice. -/
theorem St.rdO {g o k cap : Nat} {l : List Value} (H : St w0 X L w) (i : Nat) (hi : L[i]? = some [(g, Rw t l)]) (hl : o + k ≤ l.length) (hc : k ≤ cap ∧ cap ≤ maxLen) :
    Rd [] w 1 (.slice (some ((bs g).add o)) k cap) k ((l.drop o).take k) :=
  ⟨by simp; omega, ⟨_, _, rfl, hc⟩, (fun j u hu => by
    rw [List.getElem?_take] at hu
    by_cases hj : j < k
    · rw [if_pos hj, List.getElem?_drop] at hu
      have hsp : sp (.slice (some ((bs g).add o)) k cap) = (bs g).add o := rfl
      rw [hsp, add_add]
      exact H.cell i hi hu
    · rw [if_neg hj] at hu; cases hu), fun _ => ⟨by simp, _, _, _, rfl⟩⟩

/-- What a slice that is read yields to append and copy. -/
theorem Rd.src {e' : TypeId} (hk : P.underlying tx = some (.slice e')) (hR : Rd X w s v n cs) (h1 : ∀ u ∈ cs, u.oneCell' = true) : Src P s tx v n cs w := by
  obtain ⟨a, cap, rfl, -⟩ := hR.shape
  have hl := hR.len
  by_cases h0 : 0 < cs.length
  · obtain ⟨-, p, n', cap', e⟩ := hR.off h0
    injection e with e1 e2 e3
    subst e1 e2 e3
    exact Src.ofSlice w hk p n cap cs hl hR.cell h1
  · have h2 : cs = [] := List.eq_nil_of_length_eq_zero (by omega)
    subst h2
    refine ⟨.inl ⟨_, hk⟩, fun _ => rfl, ?_, ?_, hl, h1⟩
    all_goals
      have h3 : n * s = 0 := by simpa using hl.symm
      cases a with
      | none => simp [Builtin.firstCells]
      | some p => simp [Builtin.firstCells, h3, loadCells, loadCellsFrom]

theorem app_room {g sLen sCap : Nat} {u : Value} {cur : List Value} {i : TypeInfo} (ht : P.underlying t = some (.slice e)) (hi : P.info? e = some i) (hs : Src P i.size tx u m news w)
    (hg : w.heap[g]? = some (Rw e cur)) (hroom : sLen + m ≤ sCap) (hfit : sLen * i.size + news.length ≤ cur.length) :
    (Builtin.append_ #[t, tx] ty #[.slice (some (bs g)) sLen sCap, u]).run P w =
      .ok (.slice (some (bs g)) (sLen + m) sCap) (w.setRow g (cur.take (sLen * i.size) ++ news ++ cur.drop (sLen * i.size + news.length)).toArray) := by
  have hst := run_storeCells_at P g (sLen * i.size) e news 0 cur.toArray w hg (by simpa using hfit) hs.one
  simp only [Nat.add_zero] at hst
  rcases hs.kind with ⟨e', hk⟩ | hk <;>
    simp [Builtin.append_, run_underlying ht, run_underlying hk, sizeOf, typeInfo, hi, hs.len, hroom, hs.cells, Addr.add_lit, hst]

theorem ow_append {u z : Value} {b : Nat} (ht : P.underlying t = some (.slice e)) (hs : Sz P e s) (hz : Zr P e z) (hb : Bt P e b) (hzs : z.cells.size = s)
    (ho : OS e s v n cs E) (H : St w0 X (E :: L) w) (hx : ev nn f x = v) (hy : ev nn f y = u) (hsrc : Src P s tx u m news w) (hsz : (n + m) * b ≤ 140737488355328) (h63 : n + m ≤ 9223372036854775807) :
    OW P nn f (.call { callee := .builtin .append, args := #[x, y], argTypes := #[t, tx] }) ty w (fun v' w' => ∃ E', OS e s v' (n + m) (cs ++ news) E' ∧ St w0 X (E' :: L) w') := by
  obtain ⟨i, hi, rfl⟩ := hs
  obtain ⟨i', hi', hz'⟩ := hz
  obtain rfl : i = i' := by rw [hi] at hi'; exact Option.some.inj hi'
  obtain ⟨i', hi', rfl⟩ := hb
  obtain rfl : i = i' := by rw [hi] at hi'; exact Option.some.inj hi'
  have hnl := hsrc.newsLen
  have hcl := ho.len
  have grow : ∀ (base : Option Addr) (sCap : Nat), v = .slice base n sCap → sCap < n + m → (Builtin.firstCells i.size n (.slice base n sCap)).run P w.drew = .ok cs.toArray w.drew →
      (∀ (w' : World), w.heap.size < w'.heap.size → ∀ o', St w [] [[(w.heap.size, o')]] w' → St w0 X ([(w.heap.size, o')] :: L) w') →
      OW P nn f (.call { callee := .builtin .append, args := #[x, y], argTypes := #[t, tx] }) ty w (fun v' w' => ∃ E', OS e i.size v' (n + m) (cs ++ news) E' ∧ St w0 X (E' :: L) w') := by
    intro base sCap hv hlt hold hst
    subst hv
    have hr := run_append_grow_src w t tx ty e i z ht hi hz' base n sCap cs hold u m news hsrc hlt (by omega) (growslice_fits hlt hsz)
    refine ow_of_y (v := .slice (some (bs w.heap.size)) (n + m) (grownCap w (n + m) sCap e)) (w' := w.drew.alloc (.cells ((cs ++ news).toArray ++ Builtin.zeroCells z.cells (grownCap w (n + m) sCap e - (n + m))) e)) ?_ ?_
    · intro o ho hty
      simp [execOp, ho, hty, resolve, invoke, builtin, hx, hy, hr]
    · have hge := grownCap_ge w (n + m) sCap e
      have hml : n + m ≤ maxLen := by simp only [maxLen]; omega
      have hcm := grownCap_le_maxLen w (n + m) sCap e hml
      have harr : (cs ++ news).toArray ++ Builtin.zeroCells z.cells (grownCap w (n + m) sCap e - (n + m)) = (cs ++ news ++ (Builtin.zeroCells z.cells (grownCap w (n + m) sCap e - (n + m))).toList).toArray := by
        apply Array.ext'
        simp
      refine ⟨[(w.heap.size, Rw e (cs ++ news ++ (Builtin.zeroCells z.cells (grownCap w (n + m) sCap e - (n + m))).toList))], .inr ⟨_, _, _, rfl, rfl, hge, hcm, ?_, ?_⟩, ?_⟩
      · rw [List.length_append, List.length_append, hcl, hnl, Array.length_toList, size_zeroCells, hzs, ← Nat.add_mul, ← Nat.add_mul]
        congr 1
        omega
      · exact List.take_left' (by rw [List.length_append, hcl, hnl, Nat.add_mul])
      · rw [harr]
        refine hst _ (by simp) _ ?_
        exact ⟨rfl, rfl, rfl, by simp, fun k hk _ => heap_alloc_old w.drew _ k hk, by simpa using heap_alloc_new w.drew _, by simp, by simp⟩
  rcases ho with ⟨rfl, rfl, rfl, rfl⟩ | ⟨g, cap, cur, rfl, rfl, hn, hm, hcl2, htk⟩
  · by_cases hm0 : m = 0
    · subst hm0
      have hn0 : news = [] := List.eq_nil_of_length_eq_zero (by simpa using hnl)
      subst hn0
      refine ow_of_y (v := .slice none 0 0) (w' := w) ?_ ⟨[], .inl ⟨rfl, rfl, rfl, rfl⟩, H⟩
      intro o ho hty
      rcases hsrc.kind with ⟨e', hk⟩ | hk <;>
        simp [execOp, ho, resolve, invoke, builtin, hx, hy, Builtin.append_, run_underlying ht, run_underlying hk, sizeOf, typeInfo, hi, hsrc.len, hsrc.cells]
    · exact grow none 0 rfl (by omega) (run_firstCells_none w.drew i.size 0 0 0) (fun w' hlt o' hst => by simpa using H.drop.app hst)
  · by_cases hroom : n + m ≤ cap
    · have hg : w.heap[g]? = some (Rw e cur) := H.get 0 rfl
      have hfit : n * i.size + news.length ≤ cur.length := by rw [hcl2, hnl, ← Nat.add_mul]; exact Nat.mul_le_mul_right _ hroom
      have hr := app_room (P := P) (ty := ty) ht hi hsrc hg hroom hfit
      refine ow_of_y (v := .slice (some (bs g)) (n + m) cap) (w' := w.setRow g (cur.take (n * i.size) ++ news ++ cur.drop (n * i.size + news.length)).toArray) ?_ ?_
      · intro o ho hty
        simp [execOp, ho, hty, resolve, invoke, builtin, hx, hy, hr]
      · refine ⟨[(g, Rw e (cur.take (n * i.size) ++ news ++ cur.drop (n * i.size + news.length)))], .inr ⟨g, cap, _, rfl, rfl, hroom, hm, ?_, ?_⟩, H.setRow⟩
        · simp only [List.length_append, List.length_take, List.length_drop]
          omega
        · rw [htk]
          exact List.take_left' (by rw [List.length_append, hcl, hnl, Nat.add_mul])
    · have hfc : (Builtin.firstCells i.size n (.slice (some (bs g)) n cap)).run P w.drew = .ok cs.toArray w.drew :=
        run_firstCells_some w.drew i.size n (bs g) n cap cs hcl (fun j u hu => by
          have hj := (List.getElem?_eq_some_iff.1 hu).1
          have : cur[j]? = some u := by rw [← htk, List.getElem?_take, if_pos (by omega)] at hu; exact hu
          exact H.cell 0 rfl this)
      exact grow (some (bs g)) cap rfl (by omega) hfc (fun w' hlt o' hst => by simpa using H.drop.app hst)

/-- 'make([]T, n, c)'. -/
theorem ow_make {z : Value} {b l c : Nat} {xl xc : Operand} {k1 k2 : IntKind} (ht : P.underlying t = some (.slice e)) (hs : Sz P e s) (hz : Zr P e z) (hb : Bt P e b) (hzs : z.cells.size = s) (H : St w0 X L w)
    (hl : ev nn f xl = .int k1 (l : Int)) (hc : ev nn f xc = .int k2 (c : Int)) (hlc : l ≤ c) (hsz : b * c ≤ 281474976710656) (h63 : c ≤ 9223372036854775807) :
    OW P nn f (.makeSlice t xl xc) ty w (fun v' w' => ∃ g, v' = .slice (some (bs g)) l c ∧ St w0 X ([(g, Rw e (madeCells z.cells (c * s)).toList)] :: L) w') := by
  obtain ⟨i, hi, rfl⟩ := hs
  obtain ⟨i', hi', hz'⟩ := hz
  obtain rfl : i = i' := by rw [hi] at hi'; exact Option.some.inj hi'
  obtain ⟨i', hi', rfl⟩ := hb
  obtain rfl : i = i' := by rw [hi] at hi'; exact Option.some.inj hi'
  have hb' : (i.bytes : Int) * (c : Int) ≤ 281474976710656 := by
    have h : ((i.bytes * c : Nat) : Int) ≤ 281474976710656 := by omega
    rwa [Int.natCast_mul] at h
  have hr := run_make (P := P) w t e i z ht hi hz' k1 k2 l c (by omega) (by omega) hb' (by omega)
  simp only [Int.toNat_natCast] at hr
  refine ow_of_y (v := .slice (some (bs w.heap.size)) l c) (w' := w.alloc (.cells (madeCells z.cells (c * i.size)) e)) ?_ ⟨w.heap.size, rfl, ?_⟩
  · intro o ho hty
    simp [execOp, ho, hl, hc, hr]
  · have := H.alloc (.cells (madeCells z.cells (c * i.size)) e)
    simpa using this
/-- 'append' and 'make' of no room. -/
theorem made_rep {z : Value} {c : Nat} (hz : z.cells = #[z]) : (madeCells z.cells c).toList = List.replicate c z := by
  apply List.ext_getElem
  · simp [madeCells]
  · intro j h1 h2
    simp [madeCells, hz, Nat.mod_one]

/-- A literal of a slice. -/
theorem ow_buildSlice {z : Value} {len : Nat} {parts : List (Nat × Operand)} {pv : List (Nat × Value)} {us : List Value} (ht : P.underlying t = some (.slice e)) (hs : Sz P e s) (hz : Zr P e z) (H : St w0 X L w)
    (he : EvP nn f parts pv) (hlen : len * s ≤ 16777216) (hf : Instr.fill (fun i => some (i * s, s)) ((Array.range (len * s)).map (z.cells[· % z.cells.size]!)) pv = some us.toArray) :
    OW P nn f (.buildSlice t len parts.toArray) ty w (fun v' w' => ∃ g, v' = .slice (some (bs g)) len len ∧ St w0 X ([(g, Rw e us)] :: L) w') := by
  refine ow_of_y (v := .slice (some (bs w.heap.size)) len len) (w' := w.alloc (Rw e us)) ?_ ⟨w.heap.size, rfl, H.alloc _⟩
  intro o ho hty
  have e1 : (parts.toArray.map fun (i, x) => (i, ev nn f x)) = pv.toArray := by
    rw [← evp_map he]; simp
  have hlen' : ¬ (2 ^ 24 < len * s) := by omega
  by_cases h0 : len * s = 0
  · have er : ∀ F : Nat → Value, (Array.range 0).map F = #[] := fun F => by apply Array.eq_empty_of_size_eq_zero; simp
    have hf' : Instr.fill (fun i => some (i * s, s)) #[] pv = some us.toArray := by
      rw [h0, er] at hf
      exact hf
    have h24 : ¬ ((2 : Nat) ^ 24 < 0) := by omega
    simp only [execOp, ho, e1, Instr.buildSlice, Sem.run_bind, run_underlying ht, Result.andThen_ok, run_sizeOf hs, gt_iff_lt, h0, h24, if_false, if_true, Sem.run_pure, er, hf', newRow, run_newObj]
    rfl
  · simp only [execOp, ho, e1, Instr.buildSlice, Sem.run_bind, run_underlying ht, Result.andThen_ok, run_sizeOf hs, gt_iff_lt, hlen', if_false, h0, run_zero hz, Sem.run_pure, hf, newRow, run_newObj]
    rfl

/-- 'copy(dst, src)', dst over a block of ours from cell o on. -/
theorem ow_copy {Y : List Nat} {g o dn dc k : Nat} {tt sT : TypeId} {l : List Value} {u : Value} (ht : P.underlying t = some (.slice e)) (hs : Sz P e 1) (H : St w0 X ([(g, Rw tt l)] :: L) w)
    (hx : ev nn f x = .slice (some ((bs g).add o)) dn dc) (hy : ev nn f y = u) (hsrc : Rd Y w 1 u n cs) (h1 : ∀ u ∈ cs, u.oneCell' = true) (hk : k = min n dn) (hfit : o + k ≤ l.length) :
    OW P nn f (.call { callee := .builtin .copy, args := #[x, y], argTypes := #[t, sT] }) ty w (fun v' w' => v' = I (k : Int) ∧ St w0 X ([(g, Rw tt (l.take o ++ cs.take k ++ l.drop (o + k)))] :: L) w') := by
  have hg : w.heap[g]? = some (Rw tt l) := H.get 0 rfl
  have hcl := hsrc.len
  simp only [Nat.mul_one] at hcl
  have hkl : (cs.take k).length = k := by rw [List.length_take, hcl]; omega
  obtain ⟨a, cap, rfl, hnc, -⟩ := hsrc.shape
  have hst := run_storeCells_at P g o tt (cs.take k) 0 l.toArray w hg (by simp [hkl]; omega) (fun u hu => h1 u (List.mem_of_mem_take hu))
  simp only [Nat.add_zero, hkl] at hst
  have hfc : (Builtin.firstCells 1 k (.slice a n cap)).run P w = .ok (cs.take k).toArray w := by
    by_cases h0 : 0 < cs.length
    · obtain ⟨-, p, n', cap', e⟩ := hsrc.off h0
      injection e with e1 e2 e3
      subst e1
      exact run_firstCells_some w 1 k p n cap (cs.take k) (by omega) (fun j u hu => by
        rw [List.getElem?_take] at hu
        split at hu
        · exact hsrc.cell j u hu
        · cases hu)
    · have hk0 : k = 0 := by omega
      subst hk0
      cases a with
      | none => simp [Builtin.firstCells]
      | some p => simp [Builtin.firstCells, loadCells, loadCellsFrom]
  refine ow_of_y (v := I (k : Int)) (w' := w.setRow g (l.take o ++ cs.take k ++ l.drop (o + k)).toArray) ?_ ⟨rfl, H.setRow⟩
  intro oo hoo hty
  have hmin : Nat.min n dn = k := hk.symm
  have hadd : (bs g).add o = ⟨g, o, none⟩ := bs_add g o
  simp [execOp, hoo, resolve, invoke, builtin, hx, hy, Builtin.copy_, run_underlying ht, Builtin.lenOf, run_sizeOf hs, hmin, hfc, hadd, hst, goInt]
end
end Go.Proofs.Ytdcmbcjkdhdohaa
