/- 'append' under a wider bound on what is made; a store into an own slice of bytes. -/
import Derived.Test.YtdcmbcjkdhdohaaTwo
import Derived.Deep.DeepAppendWide
namespace Go.Proofs.Ytdcmbcjkdhdohaa
open Go Go.RowKit
set_option linter.unusedSimpArgs false
set_option linter.unusedVariables false

section
variable {P : Program} {w w0 : World} {X : List Nat} {L : List Part} {E : Part} {e s n m : Nat} {v : Value} {cs news : List Value} {nn : Nat} {f : Nat → Value} {x y : Operand} {t tx ty : TypeId}
theorem ow_appendW {u z : Value} {b : Nat} (ht : P.underlying t = some (.slice e)) (hs : Sz P e s) (hz : Zr P e z) (hb : Bt P e b) (hzs : z.cells.size = s)
    (ho : OS e s v n cs E) (H : St w0 X (E :: L) w) (hx : ev nn f x = v) (hy : ev nn f y = u) (hsrc : Src P s tx u m news w) (hsz : (n + m + (n + m) / 4 + 192) * b ≤ 281474976710656) (h63 : n + m ≤ 9223372036854775807) :
    OW P nn f (.call { callee := .builtin .append, args := #[x, y], argTypes := #[t, tx] }) ty w (fun v' w' => ∃ E', OS e s v' (n + m) (cs ++ news) E' ∧ St w0 X (E' :: L) w') := by
  obtain ⟨i, hi, rfl⟩ := hs
  obtain ⟨i', hi', hz'⟩ := hz
  obtain rfl : i = i' := by rw [hi] at hi'; exact Option.some.inj hi'
  obtain ⟨i', hi', rfl⟩ := hb
  obtain rfl : i = i' := by rw [hi] at hi'; exact Option.some.inj hi'
  have hnl := hsrc.newsLen
  have hcl := ho.len
  have grow : ∀ (base : Option Addr) (sCap : Nat), v = .slice base n sCap → sCap < n + m → (Builtin.firstCells i.size n (.slice base n sCap)).run P w.drew = .ok cs.toArray w.drew →
      (∀ (w' : World), w.heap.size < w'.heap.size → ∀ o', St w [] [[(w.heap.size, o')]] w' → St w0 X ([(w.heap.size, o')] :: L) w') →
      OW P nn f (.call { callee := .builtin .append, args := #[x, y], argTypes := #[t, tx] }) ty w (fun v' w' => ∃ E', OS e i.size v' (n + m) (cs ++ news) E' ∧ St w0 X (E' :: L) w') := by
    intro base sCap hv hlt hold hst
    subst hv
    have hr := run_append_grow_src w t tx ty e i z ht hi hz' base n sCap cs hold u m news hsrc hlt (by omega) (growslice_fits_wide hlt hsz)
    refine ow_of_y (v := .slice (some (bs w.heap.size)) (n + m) (grownCap w (n + m) sCap e)) (w' := w.drew.alloc (.cells ((cs ++ news).toArray ++ Builtin.zeroCells z.cells (grownCap w (n + m) sCap e - (n + m))) e)) ?_ ?_
    · intro o ho hty
      simp [execOp, ho, hty, resolve, invoke, builtin, hx, hy, hr]
    · have hge := grownCap_ge w (n + m) sCap e
      have hml : n + m ≤ maxLen := by simp only [maxLen]; omega
      have hcm := grownCap_le_maxLen w (n + m) sCap e hml
      have harr : (cs ++ news).toArray ++ Builtin.zeroCells z.cells (grownCap w (n + m) sCap e - (n + m)) = (cs ++ news ++ (Builtin.zeroCells z.cells (grownCap w (n + m) sCap e - (n + m))).toList).toArray := by
        apply Array.ext'
        simp
      refine ⟨[(w.heap.size, Rw e (cs ++ news ++ (Builtin.zeroCells z.cells (grownCap w (n + m) sCap e - (n + m))).toList))], .inr ⟨_, _, _, rfl, rfl, hge, hcm, ?_, ?_⟩, ?_⟩
      · rw [List.length_append, List.length_append, hcl, hnl, Array.length_toList, size_zeroCells, hzs, ← Nat.add_mul, ← Nat.add_mul]
        congr 1
        omega
      · exact List.take_left' (by rw [List.length_append, hcl, hnl, Nat.add_mul])
      · rw [harr]
        refine hst _ (by simp) _ ?_
        exact ⟨rfl, rfl, rfl, by simp, fun k hk _ => heap_alloc_old w.drew _ k hk, by simpa using heap_alloc_new w.drew _, by simp, by simp⟩
  rcases ho with ⟨rfl, rfl, rfl, rfl⟩ | ⟨g, cap, cur, rfl, rfl, hn, hm, hcl2, htk⟩
  · by_cases hm0 : m = 0
    · subst hm0
      have hn0 : news = [] := List.eq_nil_of_length_eq_zero (by simpa using hnl)
      subst hn0
      refine ow_of_y (v := .slice none 0 0) (w' := w) ?_ ⟨[], .inl ⟨rfl, rfl, rfl, rfl⟩, H⟩
      intro o ho hty
      rcases hsrc.kind with ⟨e', hk⟩ | hk <;>
        simp [execOp, ho, resolve, invoke, builtin, hx, hy, Builtin.append_, run_underlying ht, run_underlying hk, sizeOf, typeInfo, hi, hsrc.len, hsrc.cells]
    · exact grow none 0 rfl (by omega) (run_firstCells_none w.drew i.size 0 0 0) (fun w' hlt o' hst => by simpa using H.drop.app hst)
  · by_cases hroom : n + m ≤ cap
    · have hg : w.heap[g]? = some (Rw e cur) := H.get 0 rfl
      have hfit : n * i.size + news.length ≤ cur.length := by rw [hcl2, hnl, ← Nat.add_mul]; exact Nat.mul_le_mul_right _ hroom
      have hr := app_room (P := P) (ty := ty) ht hi hsrc hg hroom hfit
      refine ow_of_y (v := .slice (some (bs g)) (n + m) cap) (w' := w.setRow g (cur.take (n * i.size) ++ news ++ cur.drop (n * i.size + news.length)).toArray) ?_ ?_
      · intro o ho hty
        simp [execOp, ho, hty, resolve, invoke, builtin, hx, hy, hr]
      · refine ⟨[(g, Rw e (cur.take (n * i.size) ++ news ++ cur.drop (n * i.size + news.length)))], .inr ⟨g, cap, _, rfl, rfl, hroom, hm, ?_, ?_⟩, H.setRow⟩
        · simp only [List.length_append, List.length_take, List.length_drop]
          omega
        · rw [htk]
          exact List.take_left' (by rw [List.length_append, hcl, hnl, Nat.add_mul])
    · have hfc : (Builtin.firstCells i.size n (.slice (some (bs g)) n cap)).run P w.drew = .ok cs.toArray w.drew :=
        run_firstCells_some w.drew i.size n (bs g) n cap cs hcl (fun j u hu => by
          have hj := (List.getElem?_eq_some_iff.1 hu).1
          have : cur[j]? = some u := by rw [← htk, List.getElem?_take, if_pos (by omega)] at hu; exact hu
          exact H.cell 0 rfl this)
      exact grow (some (bs g)) cap rfl (by omega) hfc (fun w' hlt o' hst => by simpa using H.drop.app hst)


theorem ow_storeO8 {k i : Nat} {l : List UInt8} {z : UInt8} (ho : OS e 1 v l.length (l.map B8) E) (H : St w0 X (E :: L) w) (hs : Sz P t 1) (hx : ev nn f x = Ad (sp v) k) (hy : ev nn f y = B8 z) (hk : k = i) (hi : i < l.length) :
    OW P nn f (.store t x y) ty w (fun _ w' => ∃ E', OS e 1 v (l.set i z).length ((l.set i z).map B8) E' ∧ St w0 X (E' :: L) w') :=
  (ow_storeOS ho H hs hx hy rfl hk hi).mono fun _ _ ⟨E', h1, h2⟩ => ⟨E', by rw [List.length_set, List.map_set]; exact h1, h2⟩
end
end Go.Proofs.Ytdcmbcjkdhdohaa
