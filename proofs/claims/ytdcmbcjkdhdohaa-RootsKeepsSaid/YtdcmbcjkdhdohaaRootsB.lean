/- The references' book of rows in memory; readings away from a part; a string as bytes; the rows that are hashed for trees. -/
import Derived.Test.YtdcmbcjkdhdohaaRoots3
namespace Go.Proofs.Ytdcmbcjkdhdohaa
open Go Go.RowKit
set_option linter.unusedSimpArgs false
set_option linter.unusedVariables false
section
variable {w w0 : World} {X : List Nat} {L : List Part} {E Ea Eb : Part} {s n : Nat} {v : Value} {cs : List Value}
/-- What was read ahead of a call that may write into X stands away from a part that came out of it. -/
theorem Rd.awayX (h : Rd X w0 s v n cs) (H : St w0 X (E :: L) w) : Rd (E.map (·.1)) w s v n cs :=
  have h2 := h.st H
  ⟨h2.len, h2.shape, h2.cell, fun h0 => ⟨(fun hm => by
    obtain ⟨p, hp, e⟩ := List.mem_map.1 hm
    have h3 := h.blk h0
    exact (h.off h0).1 (e ▸ H.new E List.mem_cons_self p hp (by omega))), (h2.off h0).2⟩⟩
theorem CsR.awayX {cs : List Cl} (h : CsR X w0 v cs) (H : St w0 X (E :: L) w) : CsR (E.map (·.1)) w v cs :=
  ⟨h.rd.awayX H, fun c hc => ⟨(h.each c hc).1.awayX H, (h.each c hc).2⟩, h.le⟩
theorem CR.awayX {c : Cl} (h : CR X w0 c) (H : St w0 X (E :: L) w) : CR (E.map (·.1)) w c := ⟨h.1.awayX H, h.2⟩
/-- A block of ours is read away from another part of ours. -/
theorem Rd.awayB (h : Rd [] w s v n cs) {g : Nat} {o : Obj} (hv : 0 < cs.length → (sp v).block = g) (H : St w0 X L w) (i j : Nat) (hi : L[i]? = some E) (hj : L[j]? = some [(g, o)]) (hij : i ≠ j) : Rd (E.map (·.1)) w s v n cs :=
  ⟨h.len, h.shape, h.cell, fun h0 => ⟨(fun hm => by
    obtain ⟨p, hp, e⟩ := List.mem_map.1 hm
    rw [hv h0] at e
    have hi2 := (List.getElem?_eq_some_iff.1 hi)
    have hj2 := (List.getElem?_eq_some_iff.1 hj)
    have hdj := List.pairwise_iff_getElem.1 H.dj
    rcases Nat.lt_or_gt_of_ne hij with h1 | h1
    · have := hdj i j hi2.1 hj2.1 h1
      rw [hi2.2, hj2.2] at this
      exact this p hp (g, o) (by simp) e
    · have := hdj j i hj2.1 hi2.1 h1
      rw [hi2.2, hj2.2] at this
      exact this (g, o) (by simp) p hp e.symm), (h.off h0).2⟩⟩
theorem St.subL (H : St w0 X ((Ea ++ Eb) :: L) w) : St w0 X (Ea :: L) w := by
  have h0 := List.pairwise_cons.1 H.dj
  refine ⟨H.os, H.tape, H.output, H.size, H.keep, fun F hF p hp => ?_, fun F hF p hp => ?_, List.pairwise_cons.2 ⟨fun F hF p hp q hq => h0.1 F hF p (by simp [hp]) q hq, h0.2⟩⟩
  · rcases List.mem_cons.1 hF with rfl | hF
    · exact H.own _ List.mem_cons_self p (List.mem_append_left _ hp)
    · exact H.own F (by simp [hF]) p hp
  · rcases List.mem_cons.1 hF with rfl | hF
    · exact H.new _ List.mem_cons_self p (List.mem_append_left _ hp)
    · exact H.new F (by simp [hF]) p hp
theorem St.subR (H : St w0 X ((Ea ++ Eb) :: L) w) : St w0 X (Eb :: L) w := by
  have h0 := List.pairwise_cons.1 H.dj
  refine ⟨H.os, H.tape, H.output, H.size, H.keep, fun F hF p hp => ?_, fun F hF p hp => ?_, List.pairwise_cons.2 ⟨fun F hF p hp q hq => h0.1 F hF p (by simp [hp]) q hq, h0.2⟩⟩
  · rcases List.mem_cons.1 hF with rfl | hF
    · exact H.own _ List.mem_cons_self p (List.mem_append_right _ hp)
    · exact H.own F (by simp [hF]) p hp
  · rcases List.mem_cons.1 hF with rfl | hF
    · exact H.new _ List.mem_cons_self p (List.mem_append_right _ hp)
    · exact H.new F (by simp [hF]) p hp
end
/-- Rows of bytes, each a slice of its own, all in one part. -/
def RowsP : List Value → List (List UInt8) → Part → Prop
  | [], [], F => F = []
  | v :: vs, l :: ls, F => ∃ F1 F2, F = F1 ++ F2 ∧ OS 5 1 v l.length (l.map B8) F1 ∧ RowsP vs ls F2
  | _, _, _ => False
theorem RowsP.len : ∀ {vs : List Value} {ls : List (List UInt8)} {F : Part}, RowsP vs ls F → vs.length = ls.length
  | [], [], _, _ => rfl
  | _ :: _, _ :: _, _, ⟨_, _, _, _, h⟩ => by rw [List.length_cons, List.length_cons, RowsP.len h]
  | [], _ :: _, _, h => h.elim
  | _ :: _, [], _, h => h.elim
theorem RowsP.snoc {v : Value} {l : List UInt8} {E : Part} (ho : OS 5 1 v l.length (l.map B8) E) : ∀ {vs : List Value} {ls : List (List UInt8)} {F : Part}, RowsP vs ls F → RowsP (vs ++ [v]) (ls ++ [l]) (F ++ E)
  | [], [], _, h => by cases h; exact ⟨E, [], by simp, ho, rfl⟩
  | _ :: _, _ :: _, _, ⟨F1, F2, e, h1, h2⟩ => ⟨F1, F2 ++ E, by rw [e, List.append_assoc], h1, RowsP.snoc ho h2⟩
  | [], _ :: _, _, h => h.elim
  | _ :: _, [], _, h => h.elim
theorem RowsP.rds {w w0 : World} {X : List Nat} {L : List Part} : ∀ {vs : List Value} {ls : List (List UInt8)} {F : Part}, RowsP vs ls F → St w0 X (F :: L) w → Rds w vs ls
  | [], [], _, _, _ => trivial
  | _ :: _, _ :: _, _, ⟨F1, F2, e, h1, h2⟩, H => by
    subst e
    exact ⟨h1.rd H.subL 0 rfl, RowsP.rds h2 H.subR⟩
  | [], _ :: _, _, h, _ => h.elim
  | _ :: _, [], _, h, _ => h.elim
/-- A book: its block, its list of rows, the rows. -/
def BkP (g : Nat) (rows : List (List UInt8)) (EB : Part) : Prop := ∃ rv vs E F, EB = ([(g, Rw 120 [rv])] ++ E) ++ F ∧ OS 23 1 rv rows.length vs E ∧ RowsP vs rows F ∧
  (∀ p ∈ ([(g, Rw 120 [rv])] : Part), ∀ q ∈ E, p.1 ≠ q.1) ∧ (∀ p ∈ ([(g, Rw 120 [rv])] ++ E : Part), ∀ q ∈ F, p.1 ≠ q.1)
theorem bk_new (g : Nat) : BkP g [] [(g, Rw 120 [.slice none 0 0])] := ⟨_, [], [], [], rfl, OS.nil 23 1, rfl, by simp, by simp⟩
/-- A book's rows are read. -/
theorem BkP.rd {w w0 : World} {X : List Nat} {L : List Part} {g : Nat} {rows : List (List UInt8)} {EB : Part} (h : BkP g rows EB) (H : St w0 X L w) (i : Nat) (hi : L[i]? = some EB) :
    ∃ rv vs, w.heap[g]? = some (Rw 120 [rv]) ∧ Rd [] w 1 rv rows.length vs ∧ Rds w vs rows ∧ vs.length = rows.length := by
  obtain ⟨rv, vs, E, F, rfl, ho, hr, h1, h2⟩ := h
  have H1 := H.foc i hi rfl
  have ha := H1.subL
  have hg : w.heap[g]? = some (Rw 120 [rv]) := ha.subL.own _ List.mem_cons_self (g, Rw 120 [rv]) (by simp)
  exact ⟨rv, vs, hg, ho.rd ha.subR 0 rfl, hr.rds H1.subR, hr.len⟩
section
variable {P : Program} {n : Nat} {f : Nat → Value} {ty t t2 e : TypeId} {w w0 : World} {x : Operand} {X : List Nat} {L : List Part}
/-- '[]byte(s)'. -/
theorem ow_convSB {l : List UInt8} (hs : P.underlying t = some .string) (hd : P.underlying t2 = some (.slice e)) (he : P.underlying e = some (.int .u8)) (H : St w0 X L w) (hx : ev n f x = .string (bst l)) (hl : l.length ≤ 140737488351232) :
    OW P n f (.convert t t2 x) ty w (fun v' w' => ∃ g o, (∃ cap, v' = .slice (some (bs g)) l.length cap) ∧ Rd [] w' 1 v' l.length (l.map B8) ∧ St w0 X ([(g, o)] :: L) w') := by
  have hr := run_bytes_of_string (P := P) w t t2 e (bst l) hs hd he
  have hge := grownCap_ge w l.length 0 e
  have hmx := grownCap_le_maxLen w l.length 0 e (by unfold maxLen; omega)
  refine ow_of_y (v := .slice (some (bs w.heap.size)) l.length (grownCap w l.length 0 e)) (w' := w.drew.alloc (.cells (bytesRow (bst l) (grownCap w l.length 0 e)) e ((bytesRow (bst l) (grownCap w l.length 0 e)).size, (bytesRow (bst l) (grownCap w l.length 0 e)).size + 1))) ?_ ?_
  · intro o ho _
    have hr' : (convert t t2 (.string (bst l))).run P w = .ok (.slice (some (bs w.heap.size)) l.length (grownCap w l.length 0 e)) (w.drew.alloc (.cells (bytesRow (bst l) (grownCap w l.length 0 e)) e ((bytesRow (bst l) (grownCap w l.length 0 e)).size, (bytesRow (bst l) (grownCap w l.length 0 e)).size + 1))) := hr
    simp [execOp, ho, hx, hr']
  · refine ⟨w.heap.size, .cells (bytesRow (bst l) (grownCap w l.length 0 e)) e ((bytesRow (bst l) (grownCap w l.length 0 e)).size, (bytesRow (bst l) (grownCap w l.length 0 e)).size + 1), ⟨_, rfl⟩, ?_, ?_⟩
    · refine ⟨by simp, ⟨_, _, rfl, hge, hmx⟩, fun j u hu => ?_, fun _ => ⟨by simp, _, _, _, rfl⟩⟩
      show World.cell? _ ((bs w.heap.size).add j) = some u
      rw [bs_add]
      have hh : (w.drew.alloc (.cells (bytesRow (bst l) (grownCap w l.length 0 e)) e ((bytesRow (bst l) (grownCap w l.length 0 e)).size, (bytesRow (bst l) (grownCap w l.length 0 e)).size + 1))).heap[w.heap.size]? = some (.cells (bytesRow (bst l) (grownCap w l.length 0 e)) e ((bytesRow (bst l) (grownCap w l.length 0 e)).size, (bytesRow (bst l) (grownCap w l.length 0 e)).size + 1)) := heap_alloc_new w.drew _
      have hc : (bytesRow (bst l) (grownCap w l.length 0 e))[j]? = some u := by
        have hj := (List.getElem?_eq_some_iff.1 hu).1
        have e1 : (bytesRow (bst l) (grownCap w l.length 0 e)) = (l.map B8).toArray ++ Array.replicate (grownCap w l.length 0 e - l.length) (.int .u8 0) := by
          unfold bytesRow
          have e3 : (bst l).data = l.toArray := rfl
          have e4 : (bst l).size = l.length := rfl
          rw [e3, e4]
          congr 1
          apply Array.ext'
          simp
        rw [e1, Array.getElem?_append_left (by simpa using hj)]
        simpa using hu
      unfold World.cell?
      rw [hh]
      exact hc
    · have h3 : St w [] [[(w.heap.size, .cells (bytesRow (bst l) (grownCap w l.length 0 e)) e ((bytesRow (bst l) (grownCap w l.length 0 e)).size, (bytesRow (bst l) (grownCap w l.length 0 e)).size + 1))]] (w.drew.alloc (.cells (bytesRow (bst l) (grownCap w l.length 0 e)) e ((bytesRow (bst l) (grownCap w l.length 0 e)).size, (bytesRow (bst l) (grownCap w l.length 0 e)).size + 1))) :=
        ⟨rfl, rfl, rfl, by simp, fun k hk _ => heap_alloc_old w.drew _ k hk, by simpa using heap_alloc_new w.drew _, by simp, by simp⟩
      simpa using H.app h3
end
theorem num_step2 {l r : List UInt8} {x x' : UInt64} (h : r ++ numN x'.toNat = l ++ numN x.toNat) (hx : 128 ≤ x') : (r ++ [(x' % 128).toUInt8 + 128]) ++ numN (x' / 128).toNat = l ++ numN x.toNat := by
  have h1 : 128 ≤ x'.toNat := UInt64.le_iff_toNat_le.1 hx
  rw [← h, numN_big (x := x'.toNat) (by omega), List.append_assoc]
  congr 1
  have e1 : (x' / 128).toNat = x'.toNat / 128 := by rw [UInt64.toNat_div]; rfl
  have e2 : ((x' % 128).toUInt8 + 128) = UInt8.ofNat (x'.toNat % 128 + 128) := by
    apply UInt8.toNat_inj.1
    rw [UInt8.toNat_add, UInt64.toNat_toUInt8, UInt64.toNat_mod, UInt8.toNat_ofNat']
    have h128 : (128 : UInt64).toNat = 128 := rfl
    have h128' : (128 : UInt8).toNat = 128 := rfl
    rw [h128, h128']; omega
  rw [e1, e2]; rfl
theorem div128_lt {y : UInt64} (h : 128 ≤ y) : (y / 128).toNat < y.toNat := by
  have h1 : 128 ≤ y.toNat := UInt64.le_iff_toNat_le.1 h
  have e : (y / 128).toNat = y.toNat / 128 := by rw [UInt64.toNat_div]; rfl
  omega
theorem half_step2 {n m f b : Nat} (hb : halfF f m n = b) (hz : m * 2 ^ f = 18446744073709551616) (h : m ≤ (n - 1) / 2) (hm : m < n) (hm0 : 0 < m) (hn : n ≤ 9223372036854775807) : ∃ f', f = f' + 1 ∧ halfF f' (m * 2) n = b ∧ m * 2 * 2 ^ f' = 18446744073709551616 ∧ m * 2 < n :=
  half_step hb hz (by omega) hn
/-- The rows that are hashed for a tree. -/
def rowsT (l : List Ce) : List (List UInt8) :=
  match h : l with
  | [] => []
  | [c] => [leafB c]
  | _ :: _ :: _ => rowsT (l.take (half l.length)) ++ rowsT (l.drop (half l.length)) ++ [innerB (treeH (l.take (half l.length))) (treeH (l.drop (half l.length)))]
termination_by l.length
decreasing_by
  · have hh := congrArg List.length h
    have := half_lt (n := l.length) (by rw [hh]; simp)
    rw [List.length_take]; omega
  · have hh := congrArg List.length h
    have := half_pos l.length
    rw [List.length_drop]
    have : 0 < l.length := by rw [hh]; simp
    omega
theorem rowsT_one (c : Ce) : rowsT [c] = [leafB c] := by rw [rowsT]
theorem rowsT_more {l : List Ce} (h : 1 < l.length) : rowsT l = rowsT (l.take (half l.length)) ++ rowsT (l.drop (half l.length)) ++ [innerB (treeH (l.take (half l.length))) (treeH (l.drop (half l.length)))] := by
  match l, h with
  | a :: b :: l, _ => rw [rowsT]
def rowsR (l : List Ce) : List (List UInt8) := if l.length = 0 then [topB 0 []] else rowsT l ++ [topB l.length (treeH l)]
theorem rowsT_len : ∀ (m : Nat) (l : List Ce), l.length ≤ m → (rowsT l).length ≤ 2 * l.length
  | 0, l, h => by
    obtain rfl := List.eq_nil_of_length_eq_zero (Nat.le_zero.1 h)
    rw [rowsT]; simp
  | m + 1, l, h => by
    by_cases h1 : 1 < l.length
    · have h2 := half_lt h1
      have h3 := half_pos l.length
      have q1 := rowsT_len m (l.take (half l.length)) (by rw [List.length_take]; omega)
      have q2 := rowsT_len m (l.drop (half l.length)) (by rw [List.length_drop]; omega)
      rw [List.length_take] at q1
      rw [List.length_drop] at q2
      rw [rowsT_more h1, List.length_append, List.length_append, List.length_singleton]
      have : (rowsT (l.take (half l.length))).length + (rowsT (l.drop (half l.length))).length + 1 ≤ 2 * l.length := by
        have q3 := rowsT_lt m (l.take (half l.length)) (by rw [List.length_take]; omega) (by rw [List.length_take]; omega)
        rw [List.length_take] at q3
        omega
      exact this
    · by_cases h0 : l.length = 0
      · obtain rfl := List.eq_nil_of_length_eq_zero h0
        rw [rowsT]; simp
      · obtain ⟨c, rfl⟩ := List.length_eq_one_iff.1 (show l.length = 1 by omega)
        rw [rowsT_one]; simp
where
  rowsT_lt : ∀ (m : Nat) (l : List Ce), l.length ≤ m → 0 < l.length → (rowsT l).length < 2 * l.length
  | 0, l, h, h0 => by omega
  | m + 1, l, h, h0 => by
    by_cases h1 : 1 < l.length
    · have h2 := half_lt h1
      have h3 := half_pos l.length
      have q1 := rowsT_lt m (l.take (half l.length)) (by rw [List.length_take]; omega) (by rw [List.length_take]; omega)
      have q2 := rowsT_lt m (l.drop (half l.length)) (by rw [List.length_drop]; omega) (by rw [List.length_drop]; omega)
      rw [List.length_take] at q1
      rw [List.length_drop] at q2
      rw [rowsT_more h1, List.length_append, List.length_append, List.length_singleton]
      omega
    · obtain ⟨c, rfl⟩ := List.length_eq_one_iff.1 (show l.length = 1 by omega)
      rw [rowsT_one]; simp
theorem rowsT_le {l : List Ce} : (rowsT l).length ≤ 2 * l.length := rowsT_len l.length l (Nat.le_refl _)
end Go.Proofs.Ytdcmbcjkdhdohaa
