/- What the law RootsKeeps needs, plain. -/
import Derived.Test.YtdcmbcjkdhdohaaKeeps5
import Derived.Test.YtdcmbcjkdhdohaaRootsC
namespace Go.Proofs.Ytdcmbcjkdhdohaa
open Go Go.RowKit
set_option linter.unusedSimpArgs false
set_option linter.unusedVariables false
theorem CellsW.append : ∀ {cs ds : List Cl} {F G : Part}, CellsW cs F → CellsW ds G → (∀ p ∈ F, ∀ q ∈ G, p.1 ≠ q.1) → CellsW (cs ++ ds) (F ++ G)
  | [], _, _, _, h, hd, _ => by cases h; exact hd
  | _ :: _, _, _, G, ⟨F1, F2, e, h1, h2, h3, h4⟩, hd, hx => by
    subst e
    refine ⟨F1, F2 ++ G, by rw [List.append_assoc], h1, h2, CellsW.append h3 hd (fun p hp q hq => hx p (List.mem_append_right _ hp) q hq), fun p hp q hq => ?_⟩
    rcases List.mem_append.1 hq with hq | hq
    · exact h4 p hp q hq
    · exact hx p (List.mem_append_left _ hp) q hq
theorem CellsW.focus : ∀ {cs : List Cl} {F : Part} {i : Nat}, CellsW cs F → i < cs.length → ∃ Fa Fi Fb, F = Fa ++ (Fi ++ Fb) ∧ (∀ p ∈ Fa, ∀ q ∈ Fi ++ Fb, p.1 ≠ q.1) ∧ (∀ p ∈ Fi, ∀ q ∈ Fb, p.1 ≠ q.1) ∧ WideP (cs.getD i c0).v (cs.getD i c0).c.l Fi ∧ small (cs.getD i c0).c ∧ CellsW (cs.take i) Fa ∧ CellsW (cs.drop (i + 1)) Fb
  | [], _, _, _, hi => absurd hi (by simp)
  | c :: cs, _, 0, ⟨F1, F2, e, h1, h2, h3, h4⟩, _ => ⟨[], F1, F2, by rw [e]; rfl, by simp, h4, h1, h2, rfl, h3⟩
  | c :: cs, _, i + 1, ⟨F1, F2, e, h1, h2, h3, h4⟩, hi => by
    obtain ⟨Fa, Fi, Fb, rfl, q1, q2, q3, q4, q5, q6⟩ := CellsW.focus (i := i) h3 (by simpa using hi)
    subst e
    refine ⟨F1 ++ Fa, Fi, Fb, by rw [List.append_assoc], fun p hp q hq => ?_, q2, q3, q4, ⟨F1, Fa, rfl, h1, h2, q5, fun p hp q hq => h4 p hp q (List.mem_append_left _ hq)⟩, q6⟩
    rcases List.mem_append.1 hp with hp | hp
    · exact h4 p hp q (List.mem_append_right _ hq)
    · exact q1 p hp q hq
theorem set_eq {cs : List Cl} {i : Nat} {c : Cl} (hi : i < cs.length) : cs.set i c = cs.take i ++ (c :: cs.drop (i + 1)) := by rw [List.set_eq_take_append_cons_drop, if_pos hi]
section
variable {P : Program} {w w0 : World} {X : List Nat} {L : List Part}
theorem CellsW.out {cs : List Cl} {F : Part} {i : Nat} (h : CellsW cs F) (hi : i < cs.length) (H : St w0 X (F :: L) w) : ∃ Fa Fi Fb, St w0 X (Fi :: Fa :: Fb :: L) w ∧ WideP (cs.getD i c0).v (cs.getD i c0).c.l Fi ∧ small (cs.getD i c0).c ∧ CellsW (cs.take i) Fa ∧ CellsW (cs.drop (i + 1)) Fb := by
  obtain ⟨Fa, Fi, Fb, rfl, q1, q2, q3, q4, q5, q6⟩ := h.focus hi
  exact ⟨Fa, Fi, Fb, (((H.split q1).split q2).foc 2 rfl rfl).foc 2 rfl rfl, q3, q4, q5, q6⟩
theorem CellsW.back {cs : List Cl} {Fa Fi Fb : Part} {i : Nat} {c : Cl} (hi : i < cs.length) (hw : WideP c.v c.c.l Fi) (hs : small c.c) (ha : CellsW (cs.take i) Fa) (hb : CellsW (cs.drop (i + 1)) Fb) (H : St w0 X (Fi :: Fa :: Fb :: L) w) : ∃ F', CellsW (cs.set i c) F' ∧ St w0 X (F' :: L) w := by
  obtain ⟨H1, d1⟩ := (H.foc 2 rfl rfl).join
  obtain ⟨H2, d2⟩ := H1.join
  refine ⟨Fa ++ (Fi ++ Fb), ?_, H2⟩
  rw [set_eq hi]
  exact ha.append ⟨Fi, Fb, rfl, hw, hs, hb, d1⟩ d2
variable {n : Nat} {f : Nat → Value} {x y : Operand} {t ty : TypeId} {v : Value} {l : List UInt8} {E : Part} {k j : Nat} {b : UInt8}
theorem ow_storeW7 (ho : WideP v l E) (H : St w0 X (E :: L) w) (hs : Sz P t 1) (hx : ev n f x = Ad (sp v) k) (hy : ev n f y = B8 b) (hk : k = j) (hj : j < l.length) :
    OW P n f (.store t x y) ty w (fun _ w' => ∃ E', WideP v (l.set j b) E' ∧ St w0 X (E' :: L) w') := by
  obtain ⟨g, cap, cur, rfl, rfl, h1, h2, h3, h4⟩ := ho
  refine (ow_store (j := j) H hs hx hy rfl hk (by omega)).mono fun _ w' h => ⟨_, ⟨g, cap, _, by rw [List.length_set], rfl, by rw [List.length_set]; exact h1, h2, by rw [List.length_set]; exact h3, ?_⟩, h⟩
  rw [List.length_set, List.take_set, h4, List.map_append, List.set_append_left _ _ (by rw [List.length_map]; exact hj), ← List.map_set, ← List.map_append]
end
end Go.Proofs.Ytdcmbcjkdhdohaa
namespace Go.Proofs.Ytdcmbcjkdhdohaa
open Go Go.RowKit
set_option linter.unusedSimpArgs false
set_option linter.unusedVariables false
attribute [local irreducible] wpList wpP Code.wp

theorem keptW_c {v v1 : Value} {ds cs : List Cl} {w : World} (hW : ∃ p cap, v = .slice (some p) ds.length cap ∧ KR w p cap ds) (hC : CsR [] w v1 cs) (hpl : ds.map (·.c) = cs.map (·.c)) :
    Calls Try.prog 47 (([v, v1] : List Value).toArray) w (fun e w' => ∃ x, e = .returned x ∧ x = .bool true ∧ Below w.heap.size w w') := by
  obtain ⟨p, cap, rfl, hK⟩ := hW
  exact kept_c p cap ds v1 cs w hK hC hpl
theorem leaves_two {kind : Int} {key : List UInt8} {l : List Ce} {p : Nat} : (leavesAt kind key l p).length ≤ 2 := by
  unfold leavesAt
  split
  · simp
  · split <;> split <;> simp
theorem leaves_in {kind : Int} {key : List UInt8} {l : List Ce} {p : Nat} (hp : p ≤ l.length) : ∀ f ∈ leavesAt kind key l p, f.c ∈ l := by
  have hat : ∀ i, i < l.length → (leafAt l i).c ∈ l := fun i hi => by
    show l.getD i ⟨0, [], []⟩ ∈ l
    rw [List.getD_eq_getElem?_getD, List.getElem?_eq_getElem hi]; exact List.getElem_mem hi
  intro f hf
  unfold leavesAt at hf
  split at hf
  · rename_i hh; rw [List.mem_singleton.1 hf]; exact hat p hh.1
  · rcases List.mem_append.1 hf with hf | hf
    · split at hf
      · rw [List.mem_singleton.1 hf]; exact hat (p - 1) (by omega)
      · exact absurd hf (by simp)
    · split at hf
      · rw [List.mem_singleton.1 hf]; exact hat p (by omega)
      · exact absurd hf (by simp)
theorem FindsA.small {kind : Int} {key : List UInt8} {cs : List Cl} {n err : Nat} {ls : List Lf} {b : Nat} (h : FindsA kind key (PL cs) n (PE ls) err) (hb : ∀ c ∈ cs, c.c.l.length ≤ b) : ls.length ≤ 2 ∧ ∀ f ∈ ls, f.cell.c.l.length ≤ b := by
  have hl : (PE ls).length = ls.length := List.length_map _
  have nil : PE ls = [] → ls = [] := fun h => List.map_eq_nil_iff.1 h
  rcases h with ⟨-, -, h2, -⟩ | ⟨-, -, -, h2, -⟩ | ⟨-, -, -, -, p, hp, h2⟩
  · rw [nil h2]; exact ⟨by simp, by simp⟩
  · rw [nil h2]; exact ⟨by simp, by simp⟩
  · refine ⟨by rw [← hl, h2]; exact leaves_two, fun f hf => ?_⟩
    have hm : f.e ∈ PE ls := List.mem_map_of_mem hf
    rw [h2] at hm
    obtain ⟨c, hc, e⟩ := List.mem_map.1 (leaves_in hp.1 _ hm)
    have := hb c hc
    rw [e] at this; exact this
theorem FindsA.n_le {kind : Int} {key : List UInt8} {cs : List Cl} {n err : Nat} {ls : List Le} (h : FindsA kind key (PL cs) n ls err) : n ≤ cs.length := by
  rcases h with ⟨-, h, -⟩ | ⟨-, -, h, -⟩ | ⟨-, -, h, -⟩
  · omega
  · omega
  · rw [h, List.length_map]; exact Nat.le_refl _
theorem ck_some {root : List UInt8} {kind : Int} {key : List UInt8} {n : Int} {ls : List Lf} (h : (checkA root kind key n (PE ls)).2.isSome = true) : 0 < ls.length ∧ (checkA root kind key n (PE ls)).2.getD cz = (ls.getD 0 lf0).cell.c := by
  unfold checkA at h ⊢
  split
  · rename_i a; rw [if_pos a] at h; cases h
  · rename_i a; rw [if_neg a] at h
    split
    · rename_i b; rw [if_pos b] at h; split at h <;> cases h
    · rename_i b; rw [if_neg b] at h
      split
      · rename_i c; rw [if_pos c] at h
        have hl := c.2.1
        rw [List.length_map] at hl
        split
        · refine ⟨by omega, ?_⟩
          match ls, hl with
          | f :: ls', _ => rfl
        · rename_i d; rw [if_neg d] at h; split at h <;> cases h
      · rename_i c; rw [if_neg c] at h; cases h
theorem ck_small {root : List UInt8} {kind : Int} {key : List UInt8} {n : Int} {w : World} {lv : Value} {ls : List Lf} (hL : LsR [] w lv ls) : small ((checkA root kind key n (PE ls)).2.getD cz) := by
  have hz : small cz := by unfold small cz; simp
  unfold checkA
  split
  · exact hz
  · split
    · split <;> exact hz
    · split
      · rename_i h
        split
        · have h0 : 0 < ls.length := by have := h.2.1; rw [List.length_map] at this; omega
          have := (hL.at (d := lf0) h0).cell.2
          match ls, h0, this with
          | f :: ls', _, this => exact this
        · split <;> exact hz
      · exact hz
theorem ow_storeOX1 {P : Program} {w w0 : World} {X : List Nat} {L : List Part} {E : Part} {e s n k : Nat} {v u : Value} {nn : Nat} {f : Nat → Value} {x y : Operand} {t ty : TypeId} (ho : OX e s v n E) (H : St w0 X (E :: L) w) (hs : Sz P t 1) (hx : ev nn f x = Ad (sp v) k) (hy : ev nn f y = u) (h1 : u.oneCell' = true) (hk : k < n * s) :
    OW P nn f (.store t x y) ty w (fun _ w' => ∃ E', OX e s v n E' ∧ St w0 X (E' :: L) w') := by
  obtain ⟨cs, ho⟩ := ho
  rcases ho with ⟨-, rfl, -⟩ | ⟨g, cap, cur, rfl, rfl, hn, hm, hcl, htk⟩
  · omega
  · have hnc : n * s ≤ cap * s := Nat.mul_le_mul_right _ hn
    refine (ow_store (j := k) H hs hx hy h1 rfl (by omega)).mono fun _ w' h => ⟨_, ⟨cs.set k u, .inr ⟨g, cap, _, rfl, rfl, hn, hm, ?_, ?_⟩⟩, h⟩
    · rw [List.length_set]; exact hcl
    · rw [List.take_set, htk]
/-- A copy's first leaf: its value in front, the slice of leaves behind it. -/
theorem lsc_open {w w0 : World} {X : List Nat} {L : List Part} {v : Value} {ks : List Lf} {EB : Part} (h : LsC v ks EB) (h0 : 0 < ks.length) (H : St w0 X (EB :: L) w) : ∃ EL Ev Er, BehP 74 5 v ks.length 1 (ks.flatMap Lf.cs ++ mk5) EL ∧ WideP (ks.getD 0 lf0).cell.v (ks.getD 0 lf0).cell.c.l Ev ∧ St w0 X (Ev :: EL :: Er :: L) w := by
  obtain ⟨E, F, rfl, hb, hF, hd, hl⟩ := h
  rcases ks with _ | ⟨f, fs⟩
  · simp at h0
  · obtain ⟨F1, F2, rfl, ⟨Ev, Ep, rfl, hw, hp, q1, q2, q3, d1⟩, hfs, d2⟩ := hF
    have H1 := (((H.split hd).split d2).foc 1 rfl rfl).split d1
    have H2 := (H1.foc 2 rfl rfl).drop
    exact ⟨E, Ev, Ep, hb, hw, ((H2.foc 1 rfl rfl).foc 2 rfl rfl).foc 1 rfl rfl⟩
theorem ck_prop {P : Ce → Prop} {root : List UInt8} {kind : Int} {key : List UInt8} {n : Int} {ls : List Lf} (hz : P cz) (hp : ∀ f ∈ ls, P f.cell.c) : P ((checkA root kind key n (PE ls)).2.getD cz) := by
  by_cases h : (checkA root kind key n (PE ls)).2.isSome = true
  · obtain ⟨h0, h1⟩ := ck_some h
    rw [h1, List.getD_eq_getElem?_getD, List.getElem?_eq_getElem h0]
    exact hp _ (List.getElem_mem h0)
  · cases hq : (checkA root kind key n (PE ls)).2 with
    | none => exact hz
    | some x => rw [hq] at h; exact absurd rfl h
theorem pe_all2 {P : Ce → Prop} {ls ks : List Lf} (h : PE ks = PE ls) (hp : ∀ f ∈ ls, P f.cell.c) : ∀ f ∈ ks, P f.cell.c := by
  intro f hf
  have hm : f.e ∈ PE ks := List.mem_map_of_mem hf
  rw [h] at hm
  obtain ⟨g, hg, e⟩ := List.mem_map.1 hm
  have h2 : g.cell.c = f.cell.c := congrArg Le.c e
  rw [← h2]; exact hp g hg
section
variable {w w0 : World} {X : List Nat} {L : List Part} {v : Value} {cs : List Cl} {E F : Part}
/-- Cells of ours, read while their parts lie apart. -/
theorem ws_csr (h1 : WSl v cs E) (h2 : CellsW cs F) (hl : cs.length ≤ 1099511627776) (H : St w0 X L w) (i j : Nat) (hi : L[i]? = some E) (hj : L[j]? = some F) : CsR [] w v cs := by
  obtain ⟨g, cap, cur, rfl, rfl, q1, q2, q3, q4⟩ := h1
  have hr := (H.foc i hi rfl).rd (n := cs.length + 1) (s := 3) (cap := cap) 0 rfl (by have : (cs.length + 1) * 3 ≤ cap * 3 := Nat.mul_le_mul_right _ q1; omega) ⟨q1, q2⟩
  rw [q4] at hr
  exact KR.csr ⟨q1, q2, hr, h2.rd (H.foc j hj rfl), hl⟩
/-- The slice of cells, read alone. -/
theorem WSl.rd3 (h1 : WSl v cs E) (H : St w0 X L w) (i : Nat) (hi : L[i]? = some E) : Rd [] w 3 v cs.length (cs.flatMap Cl.cs) := by
  obtain ⟨g, cap, cur, rfl, rfl, q1, q2, q3, q4⟩ := h1
  have hr := (H.foc i hi rfl).rd (n := cs.length + 1) (s := 3) (cap := cap) 0 rfl (by have : (cs.length + 1) * 3 ≤ cap * 3 := Nat.mul_le_mul_right _ q1; omega) ⟨q1, q2⟩
  rw [q4] at hr
  have h2 := hr.fst (m := cs.length) (by omega)
  rwa [List.take_left' (by rw [flat3_len])] at h2
theorem flat_setl : ∀ {cs : List Cl} {i : Nat} {l : List UInt8}, i < cs.length → (cs.set i ⟨⟨(cs.getD i c0).c.k, (cs.getD i c0).c.key, l⟩, (cs.getD i c0).v⟩).flatMap Cl.cs = cs.flatMap Cl.cs
  | [], _, _, hi => absurd hi (by simp)
  | c :: cs, 0, l, _ => rfl
  | c :: cs, i + 1, l, hi => by
    have := flat_setl (cs := cs) (i := i) (l := l) (by simpa using hi)
    rw [List.set_cons_succ, List.flatMap_cons, List.flatMap_cons]
    exact congrArg (c.cs ++ ·) this
theorem WSl.setl {i : Nat} {l : List UInt8} (h : WSl v cs E) (hi : i < cs.length) : WSl v (cs.set i ⟨⟨(cs.getD i c0).c.k, (cs.getD i c0).c.key, l⟩, (cs.getD i c0).v⟩) E := by
  obtain ⟨g, cap, cur, q0, q1, q2, q3, q4, q5⟩ := h
  exact ⟨g, cap, cur, by rw [List.length_set]; exact q0, q1, by rw [List.length_set]; exact q2, q3, q4, by rw [List.length_set, flat_setl hi]; exact q5⟩
end

end Go.Proofs.Ytdcmbcjkdhdohaa
