/- Own slices once more: a store into one; an append that keeps what the slice ahead of it reads ('TS': a slice and what was grown out of it). -/
import Derived.Test.YtdcmbcjkdhdohaaSlc
namespace Go.Proofs.Ytdcmbcjkdhdohaa
open Go Go.RowKit

section
variable {P : Program} {w w0 : World} {X : List Nat} {L : List Part} {E : Part} {e s n m k i : Nat} {v xv : Value} {cs ds news : List Value} {nn : Nat} {f : Nat → Value} {x y : Operand} {t tx ty : TypeId}

/-- A store into an own slice of one cell an element. -/
theorem ow_storeOS {u : Value} (ho : OS e 1 v n cs E) (H : St w0 X (E :: L) w) (hs : Sz P t 1) (hx : ev nn f x = Ad (sp v) k) (hy : ev nn f y = u) (h1 : u.oneCell' = true) (hk : k = i) (hi : i < n) :
    OW P nn f (.store t x y) ty w (fun _ w' => ∃ E', OS e 1 v n (cs.set i u) E' ∧ St w0 X (E' :: L) w') := by
  rcases ho with ⟨-, rfl, -⟩ | ⟨g, cap, cur, rfl, rfl, hn, hm, hcl, htk⟩
  · omega
  · refine (ow_store (j := i) H hs hx hy h1 hk (by omega)).mono fun _ w' h => ⟨_, .inr ⟨g, cap, _, rfl, rfl, hn, hm, ?_, ?_⟩, h⟩
    · rw [List.length_set]; exact hcl
    · rw [List.take_set, htk]

/-- As 'ow_append', and it tells what becomes of the part: it is written into behind the slice's end, or left as it is. -/
theorem ow_append2 {u z : Value} {b : Nat} (ht : P.underlying t = some (.slice e)) (hs : Sz P e s) (hz : Zr P e z) (hb : Bt P e b) (hzs : z.cells.size = s)
    (ho : OS e s v n cs E) (H : St w0 X (E :: L) w) (hx : ev nn f x = v) (hy : ev nn f y = u) (hsrc : Src P s tx u m news w) (hsz : (n + m) * b ≤ 140737488355328) (h63 : n + m ≤ 9223372036854775807) :
    OW P nn f (.call { callee := .builtin .append, args := #[x, y], argTypes := #[t, tx] }) ty w (fun v' w' => ∃ E', OS e s v' (n + m) (cs ++ news) E' ∧
      (((∀ xv k ds, k ≤ n → OS e s xv k ds E → OS e s xv k ds E') ∧ St w0 X (E' :: L) w') ∨ St w0 X (E' :: E :: L) w')) := by
  obtain ⟨i, hi, rfl⟩ := hs
  obtain ⟨i', hi', hz'⟩ := hz
  obtain rfl : i = i' := by rw [hi] at hi'; exact Option.some.inj hi'
  obtain ⟨i', hi', rfl⟩ := hb
  obtain rfl : i = i' := by rw [hi] at hi'; exact Option.some.inj hi'
  have hnl := hsrc.newsLen
  have hcl := ho.len
  have grow : ∀ (base : Option Addr) (sCap : Nat), v = .slice base n sCap → sCap < n + m → (Builtin.firstCells i.size n (.slice base n sCap)).run P w.drew = .ok cs.toArray w.drew →
      OW P nn f (.call { callee := .builtin .append, args := #[x, y], argTypes := #[t, tx] }) ty w (fun v' w' => ∃ E', OS e i.size v' (n + m) (cs ++ news) E' ∧
        (((∀ xv k ds, k ≤ n → OS e i.size xv k ds E → OS e i.size xv k ds E') ∧ St w0 X (E' :: L) w') ∨ St w0 X (E' :: E :: L) w')) := by
    intro base sCap hv hlt hold
    subst hv
    have hr := run_append_grow_src w t tx ty e i z ht hi hz' base n sCap cs hold u m news hsrc hlt (by omega) (growslice_fits hlt hsz)
    refine ow_of_y (v := .slice (some (bs w.heap.size)) (n + m) (grownCap w (n + m) sCap e)) (w' := w.drew.alloc (.cells ((cs ++ news).toArray ++ Builtin.zeroCells z.cells (grownCap w (n + m) sCap e - (n + m))) e)) ?_ ?_
    · intro o ho hty
      simp [execOp, ho, hty, resolve, invoke, builtin, hx, hy, hr]
    · have hge := grownCap_ge w (n + m) sCap e
      have hml : n + m ≤ maxLen := by simp only [maxLen]; omega
      have hcm := grownCap_le_maxLen w (n + m) sCap e hml
      have harr : (cs ++ news).toArray ++ Builtin.zeroCells z.cells (grownCap w (n + m) sCap e - (n + m)) = (cs ++ news ++ (Builtin.zeroCells z.cells (grownCap w (n + m) sCap e - (n + m))).toList).toArray := by
        apply Array.ext'
        simp
      refine ⟨[(w.heap.size, Rw e (cs ++ news ++ (Builtin.zeroCells z.cells (grownCap w (n + m) sCap e - (n + m))).toList))], .inr ⟨_, _, _, rfl, rfl, hge, hcm, ?_, ?_⟩, .inr ?_⟩
      · rw [List.length_append, List.length_append, hcl, hnl, Array.length_toList, size_zeroCells, hzs, ← Nat.add_mul, ← Nat.add_mul]
        congr 1
        omega
      · exact List.take_left' (by rw [List.length_append, hcl, hnl, Nat.add_mul])
      · rw [harr]
        have h3 : St w [] [[(w.heap.size, Rw e (cs ++ news ++ (Builtin.zeroCells z.cells (grownCap w (n + m) sCap e - (n + m))).toList))]] (w.drew.alloc (Rw e (cs ++ news ++ (Builtin.zeroCells z.cells (grownCap w (n + m) sCap e - (n + m))).toList))) :=
          ⟨rfl, rfl, rfl, by simp, fun k hk _ => heap_alloc_old w.drew _ k hk, by simpa using heap_alloc_new w.drew _, by simp, by simp⟩
        simpa using H.app h3
  rcases ho with ⟨rfl, rfl, rfl, rfl⟩ | ⟨g, cap, cur, rfl, rfl, hn, hm, hcl2, htk⟩
  · by_cases hm0 : m = 0
    · subst hm0
      have hn0 : news = [] := List.eq_nil_of_length_eq_zero (by simpa using hnl)
      subst hn0
      refine ow_of_y (v := .slice none 0 0) (w' := w) ?_ ⟨[], .inl ⟨rfl, rfl, rfl, rfl⟩, .inl ⟨fun _ _ _ _ h => h, H⟩⟩
      intro o ho hty
      rcases hsrc.kind with ⟨e', hk⟩ | hk <;>
        simp [execOp, ho, resolve, invoke, builtin, hx, hy, Builtin.append_, run_underlying ht, run_underlying hk, sizeOf, typeInfo, hi, hsrc.len, hsrc.cells]
    · exact grow none 0 rfl (by omega) (run_firstCells_none w.drew i.size 0 0 0)
  · by_cases hroom : n + m ≤ cap
    · have hg : w.heap[g]? = some (Rw e cur) := H.get 0 rfl
      have hfit : n * i.size + news.length ≤ cur.length := by rw [hcl2, hnl, ← Nat.add_mul]; exact Nat.mul_le_mul_right _ hroom
      have hr := app_room (P := P) (ty := ty) ht hi hsrc hg hroom hfit
      refine ow_of_y (v := .slice (some (bs g)) (n + m) cap) (w' := w.setRow g (cur.take (n * i.size) ++ news ++ cur.drop (n * i.size + news.length)).toArray) ?_ ?_
      · intro o ho hty
        simp [execOp, ho, hty, resolve, invoke, builtin, hx, hy, hr]
      · have hlen : (cur.take (n * i.size) ++ news ++ cur.drop (n * i.size + news.length)).length = cur.length := by
          simp only [List.length_append, List.length_take, List.length_drop]
          omega
        refine ⟨[(g, Rw e (cur.take (n * i.size) ++ news ++ cur.drop (n * i.size + news.length)))], .inr ⟨g, cap, _, rfl, rfl, hroom, hm, by rw [hlen]; exact hcl2, ?_⟩, .inl ⟨?_, H.setRow⟩⟩
        · rw [htk]
          exact List.take_left' (by rw [List.length_append, hcl, hnl, Nat.add_mul])
        · rintro xv k ds hk (⟨-, -, -, he⟩ | ⟨g', cap', cur', rfl, he, hn', hm', hcl', htk'⟩)
          · cases he
          · obtain ⟨rfl, rfl⟩ : g = g' ∧ cur = cur' := by
              injection he with he _
              injection he with h1 h2
              injection h2 with h3 h4 h5
              exact ⟨h1, by simpa using congrArg Array.toList h3⟩
            refine .inr ⟨g, cap', _, rfl, rfl, hn', hm', by rw [hlen]; exact hcl', ?_⟩
            have hks : k * i.size ≤ n * i.size := Nat.mul_le_mul_right _ hk
            rw [List.append_assoc, List.take_append_of_le_length (by rw [List.length_take]; omega), List.take_take, Nat.min_eq_left hks, htk']
    · have hfc : (Builtin.firstCells i.size n (.slice (some (bs g)) n cap)).run P w.drew = .ok cs.toArray w.drew :=
        run_firstCells_some w.drew i.size n (bs g) n cap cs hcl (fun j u hu => by
          have hj := (List.getElem?_eq_some_iff.1 hu).1
          have : cur[j]? = some u := by rw [← htk, List.getElem?_take, if_pos (by omega)] at hu; exact hu
          exact H.cell 0 rfl this)
      exact grow (some (bs g)) cap rfl (by omega) hfc

/-- xv reads as ds (k elements); v, grown out of it, as cs (n elements); both lie in part E. -/
def TS (e s : Nat) (xv : Value) (k : Nat) (ds : List Value) (v : Value) (n : Nat) (cs : List Value) (E : Part) : Prop :=
  k ≤ n ∧ ((OS e s xv k ds E ∧ OS e s v n cs E) ∨ ∃ Ex Eu, E = Ex ++ Eu ∧ OS e s xv k ds Ex ∧ OS e s v n cs Eu ∧ ∀ p ∈ Ex, ∀ q ∈ Eu, p.1 ≠ q.1)
theorem TS.refl (h : OS e s v n cs E) : TS e s v n cs v n cs E := ⟨Nat.le_refl _, .inl ⟨h, h⟩⟩
theorem St.split {Ex Eu : Part} (H : St w0 X ((Ex ++ Eu) :: L) w) (hd : ∀ p ∈ Ex, ∀ q ∈ Eu, p.1 ≠ q.1) : St w0 X (Eu :: Ex :: L) w := by
  have h0 := List.pairwise_cons.1 H.dj
  refine ⟨H.os, H.tape, H.output, H.size, H.keep, ?_, ?_, ?_⟩
  · intro F hF p hp
    rcases List.mem_cons.1 hF with rfl | hF
    · exact H.own _ List.mem_cons_self p (List.mem_append_right _ hp)
    · rcases List.mem_cons.1 hF with rfl | hF
      · exact H.own _ List.mem_cons_self p (List.mem_append_left _ hp)
      · exact H.own F (by simp [hF]) p hp
  · intro F hF p hp
    rcases List.mem_cons.1 hF with rfl | hF
    · exact H.new _ List.mem_cons_self p (List.mem_append_right _ hp)
    · rcases List.mem_cons.1 hF with rfl | hF
      · exact H.new _ List.mem_cons_self p (List.mem_append_left _ hp)
      · exact H.new F (by simp [hF]) p hp
  · refine List.pairwise_cons.2 ⟨fun F hF => ?_, List.pairwise_cons.2 ⟨fun F hF p hp q hq => h0.1 F hF p (by simp [hp]) q hq, h0.2⟩⟩
    rcases List.mem_cons.1 hF with rfl | hF
    · exact fun p hp q hq e => hd q hq p hp e.symm
    · exact fun p hp q hq => h0.1 F hF p (by simp [hp]) q hq
theorem St.join {Ex Eu : Part} (H : St w0 X (Eu :: Ex :: L) w) : St w0 X ((Ex ++ Eu) :: L) w ∧ ∀ p ∈ Ex, ∀ q ∈ Eu, p.1 ≠ q.1 := by
  have h0 := List.pairwise_cons.1 H.dj
  have h1 := List.pairwise_cons.1 h0.2
  refine ⟨⟨H.os, H.tape, H.output, H.size, H.keep, ?_, ?_, ?_⟩, fun p hp q hq e => h0.1 Ex (by simp) q hq p hp e.symm⟩
  · intro F hF p hp
    rcases List.mem_cons.1 hF with rfl | hF
    · rcases List.mem_append.1 hp with hp | hp
      · exact H.own Ex (by simp) p hp
      · exact H.own Eu (by simp) p hp
    · exact H.own F (by simp [hF]) p hp
  · intro F hF p hp
    rcases List.mem_cons.1 hF with rfl | hF
    · rcases List.mem_append.1 hp with hp | hp
      · exact H.new Ex (by simp) p hp
      · exact H.new Eu (by simp) p hp
    · exact H.new F (by simp [hF]) p hp
  · refine List.pairwise_cons.2 ⟨fun F hF p hp q hq => ?_, h1.2⟩
    rcases List.mem_append.1 hp with hp | hp
    · exact h1.1 F hF p hp q hq
    · exact h0.1 F (by simp [hF]) p hp q hq
theorem TS.rdu (h : TS e s xv k ds v n cs E) (H : St w0 X L w) (i : Nat) (hi : L[i]? = some E) : Rd [] w s v n cs := by
  obtain ⟨-, ⟨-, h2⟩ | ⟨Ex, Eu, rfl, h1, h2, hd⟩⟩ := h
  · exact h2.rd H i hi
  · have := (H.foc i hi rfl).split hd
    exact h2.rd this 0 rfl
theorem TS.rdx (h : TS e s xv k ds v n cs E) (H : St w0 X L w) (i : Nat) (hi : L[i]? = some E) : Rd [] w s xv k ds := by
  obtain ⟨-, ⟨h1, -⟩ | ⟨Ex, Eu, rfl, h1, h2, hd⟩⟩ := h
  · exact h1.rd H i hi
  · have := (H.foc i hi rfl).split hd
    exact h1.rd this 1 rfl
theorem ow_append_ts {u z : Value} {b : Nat} (ht : P.underlying t = some (.slice e)) (hs : Sz P e s) (hz : Zr P e z) (hb : Bt P e b) (hzs : z.cells.size = s)
    (ho : TS e s xv k ds v n cs E) (H : St w0 X (E :: L) w) (hx : ev nn f x = v) (hy : ev nn f y = u) (hsrc : Src P s tx u m news w) (hsz : (n + m) * b ≤ 140737488355328) (h63 : n + m ≤ 9223372036854775807) :
    OW P nn f (.call { callee := .builtin .append, args := #[x, y], argTypes := #[t, tx] }) ty w (fun v' w' => ∃ E', TS e s xv k ds v' (n + m) (cs ++ news) E' ∧ St w0 X (E' :: L) w') := by
  obtain ⟨hkn, ⟨h1, h2⟩ | ⟨Ex, Eu, rfl, h1, h2, hd⟩⟩ := ho
  · refine (ow_append2 ht hs hz hb hzs h2 H hx hy hsrc hsz h63).mono fun v' w' ⟨E', ho', hc⟩ => ?_
    rcases hc with ⟨hk, H'⟩ | H'
    · exact ⟨E', ⟨by omega, .inl ⟨hk _ _ _ hkn h1, ho'⟩⟩, H'⟩
    · obtain ⟨H2, hd2⟩ := H'.join
      exact ⟨_, ⟨by omega, .inr ⟨E, E', rfl, h1, ho', hd2⟩⟩, H2⟩
  · refine (ow_append ht hs hz hb hzs h2 (H.split hd) hx hy hsrc hsz h63).mono fun v' w' ⟨E', ho', H'⟩ => ?_
    obtain ⟨H2, hd2⟩ := H'.join
    exact ⟨_, ⟨by omega, .inr ⟨Ex, E', rfl, h1, ho', hd2⟩⟩, H2⟩
end
end Go.Proofs.Ytdcmbcjkdhdohaa
