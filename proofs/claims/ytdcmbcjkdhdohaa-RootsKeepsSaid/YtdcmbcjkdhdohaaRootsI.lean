/- Copies of witnesses with marks behind all that they hold. -/
import Derived.Test.YtdcmbcjkdhdohaaKeeps3
import Derived.Test.YtdcmbcjkdhdohaaRootsF
namespace Go.Proofs.Ytdcmbcjkdhdohaa
open Go Go.RowKit
set_option linter.unusedSimpArgs false
set_option linter.unusedVariables false
/-- The hash behind a path; the leaf behind the leaves. -/
def hmk : List UInt8 := (List.replicate 32 0).set 3 3
theorem hmk_len : hmk.length = 32 := rfl
def mk5 : List Value := [I (-6), I ((0 : Nat) : Int), .string .empty, .slice none 0 0, .slice none 0 0]
theorem slv_fst {s n m cap : Nat} {p : Addr} (h : 0 < cap) (hm : m ≤ n) : slv s 0 m (.slice (some p) n cap) = .slice (some p) m cap := by
  show Value.slice (if cap = 0 then some p else (some p).map (·.add (0 * s))) (m - 0) (cap - 0) = _
  rw [if_neg (by omega), Nat.zero_mul]
  rfl
theorem slv_fst' {s n m cap : Nat} {p : Addr} (h : 0 < cap) : slv s 0 m (.slice (some p) n cap) = .slice (some p) m cap := by
  show Value.slice (if cap = 0 then some p else (some p).map (·.add (0 * s))) (m - 0) (cap - 0) = _
  rw [if_neg (by omega), Nat.zero_mul]
  rfl
/-- A slice of n elements with more behind it: how it lies, what is read of it. -/
def BehP (e s : Nat) (v : Value) (n k : Nat) (cs : List Value) (E : Part) : Prop := ∃ g cap cur, v = .slice (some (bs g)) n cap ∧ E = [(g, Rw e cur)] ∧ n + k ≤ cap ∧ cap ≤ maxLen ∧ cur.length = cap * s ∧ cur.take ((n + k) * s) = cs
def BehR (w : World) (s : Nat) (v : Value) (n k : Nat) (cs : List Value) : Prop := ∃ p cap, v = .slice (some p) n cap ∧ n + k ≤ cap ∧ cap ≤ maxLen ∧ Rd [] w s (.slice (some p) (n + k) cap) (n + k) cs
section
variable {w w0 : World} {X : List Nat} {L : List Part} {e s n k : Nat} {v : Value} {cs : List Value} {E : Part}
theorem beh_of {tv : Value} (h : OS e s tv (n + k) cs E) (hk : 0 < k) : BehP e s (slv s 0 n tv) n k cs E := by
  rcases h with ⟨-, h, -⟩ | ⟨g, cap, cur, rfl, rfl, h1, h2, h3, h4⟩
  · omega
  · exact ⟨g, cap, cur, slv_fst (by omega) (by omega), rfl, h1, h2, h3, h4⟩
theorem BehP.rd (h : BehP e s v n k cs E) (H : St w0 X L w) (i : Nat) (hi : L[i]? = some E) : BehR w s v n k cs := by
  obtain ⟨g, cap, cur, rfl, rfl, h1, h2, h3, h4⟩ := h
  have hr := H.rd (n := n + k) (s := s) (cap := cap) i hi (by have : (n + k) * s ≤ cap * s := Nat.mul_le_mul_right _ h1; omega) ⟨h1, h2⟩
  rw [h4] at hr
  exact ⟨bs g, cap, rfl, h1, h2, hr⟩
theorem BehR.fst (h : BehR w s v n k cs) : Rd [] w s v n (cs.take (n * s)) := by
  obtain ⟨p, cap, rfl, h1, h2, h3⟩ := h
  exact h3.fst (by omega)
theorem BehR.st (h : BehR w0 s v n k cs) (H : St w0 [] L w) : BehR w s v n k cs := by
  obtain ⟨p, cap, e, h1, h2, h3⟩ := h
  exact ⟨p, cap, e, h1, h2, h3.st H⟩
theorem BehP.os (h : BehP e s v n k cs E) : OS e s v n (cs.take (n * s)) E := by
  obtain ⟨g, cap, cur, rfl, rfl, h1, h2, h3, rfl⟩ := h
  refine .inr ⟨g, cap, cur, rfl, rfl, by omega, h2, h3, ?_⟩
  rw [List.take_take, Nat.min_eq_left (Nat.mul_le_mul_right _ (by omega))]
end
/-- A path with its mark behind. -/
def PathW (v : Value) (hs : List (List UInt8)) (E : Part) : Prop := BehP 26 32 v hs.length 1 ((hs ++ [hmk]).flatten.map B8) E
def PathR (w : World) (v : Value) (hs : List (List UInt8)) : Prop := BehR w 32 v hs.length 1 ((hs ++ [hmk]).flatten.map B8)
theorem PathR.rd {w : World} {v : Value} {hs : List (List UInt8)} (h : PathR w v hs) (hh : H32 hs) : Rd [] w 32 v hs.length (hs.flatten.map B8) := by
  have h1 := h.fst
  rwa [List.flatten_append, List.map_append, List.take_left' (flat_len hh)] at h1
/-- A leaf of ours with marks behind all that it holds. -/
def LeafW (f : Lf) (F : Part) : Prop := ∃ F1 F2, F = F1 ++ F2 ∧ WideP f.cell.v f.cell.c.l F1 ∧ PathW f.pv f.path F2 ∧ small f.cell.c ∧ H32 f.path ∧ f.path.length ≤ 1099511627776 ∧ (∀ p ∈ F1, ∀ q ∈ F2, p.1 ≠ q.1)
def LeafsW : List Lf → Part → Prop
  | [], F => F = []
  | f :: fs, F => ∃ F1 F2, F = F1 ++ F2 ∧ LeafW f F1 ∧ LeafsW fs F2 ∧ (∀ p ∈ F1, ∀ q ∈ F2, p.1 ≠ q.1)
theorem LeafsW.snoc {f : Lf} {E : Part} (hf : LeafW f E) : ∀ {fs : List Lf} {F : Part}, LeafsW fs F → (∀ p ∈ F, ∀ q ∈ E, p.1 ≠ q.1) → LeafsW (fs ++ [f]) (F ++ E)
  | [], _, h, hd => by cases h; exact ⟨E, [], by simp, hf, rfl, by simp⟩
  | _ :: _, _, ⟨F1, F2, e, h1, h2, h3⟩, hd => by
    subst e
    refine ⟨F1, F2 ++ E, by rw [List.append_assoc], h1, LeafsW.snoc hf h2 (fun p hp q hq => hd p (List.mem_append_right _ hp) q hq), fun p hp q hq => ?_⟩
    rcases List.mem_append.1 hq with hq | hq
    · exact h3 p hp q hq
    · exact hd p (List.mem_append_left _ hp) q hq
/-- What is read of such leaves. -/
structure LWR (w : World) (f : Lf) : Prop where
  lr : LR [] w f
  wide : WideR w f.cell.v f.cell.c.l
  path : PathR w f.pv f.path
section
variable {w w0 : World} {X : List Nat} {L : List Part}
theorem LeafW.lr {f : Lf} {F : Part} (h : LeafW f F) (H : St w0 X (F :: L) w) : LWR w f := by
  obtain ⟨F1, F2, rfl, h1, h2, h3, h4, h5, -⟩ := h
  have hp : PathR w f.pv f.path := h2.rd H.subR 0 rfl
  exact ⟨⟨⟨h1.os.rd H.subL 0 rfl, h3⟩, hp.rd h4, h4, h5⟩, h1.rd7 H.subL 0 rfl, hp⟩
theorem LeafsW.lr : ∀ {fs : List Lf} {F : Part}, LeafsW fs F → St w0 X (F :: L) w → ∀ f ∈ fs, LWR w f
  | [], _, _, _, f, hf => absurd hf (by simp)
  | g :: fs, _, ⟨F1, F2, e, h1, h2, _⟩, H, f, hf => by
    subst e
    rcases List.mem_cons.1 hf with rfl | hf
    · exact h1.lr H.subL
    · exact LeafsW.lr h2 H.subR f hf
/-- A copy of a witness' leaves. -/
def LsC (v : Value) (ls : List Lf) (EB : Part) : Prop := ∃ E F, EB = E ++ F ∧ BehP 74 5 v ls.length 1 (ls.flatMap Lf.cs ++ mk5) E ∧ LeafsW ls F ∧ (∀ p ∈ E, ∀ q ∈ F, p.1 ≠ q.1) ∧ ls.length ≤ 1099511627776
structure LCR (w : World) (v : Value) (ls : List Lf) : Prop where
  beh : BehR w 5 v ls.length 1 (ls.flatMap Lf.cs ++ mk5)
  each : ∀ f ∈ ls, LWR w f
  le : ls.length ≤ 1099511627776
theorem LsC.rd {v : Value} {ls : List Lf} {EB : Part} (h : LsC v ls EB) (H : St w0 X L w) (i : Nat) (hi : L[i]? = some EB) : LCR w v ls := by
  obtain ⟨E, F, rfl, h1, h2, h3, h4⟩ := h
  have H1 := H.foc i hi rfl
  exact ⟨h1.rd H1.subL 0 rfl, h2.lr H1.subR, h4⟩
theorem LCR.ls {v : Value} {ls : List Lf} (h : LCR w v ls) : LsR [] w v ls := by
  have h1 := h.beh.fst
  have hl := flat5_len ls
  rw [List.take_left' (by rw [hl])] at h1
  exact ⟨h1, fun f hf => (h.each f hf).lr, h.le⟩
theorem LCR.at {v : Value} {ls : List Lf} {i : Nat} {d : Lf} (h : LCR w v ls) (hi : i < ls.length) : LWR w (ls.getD i d) := by
  rw [List.getD_eq_getElem?_getD, List.getElem?_eq_getElem hi]; exact h.each _ (List.getElem_mem hi)
theorem LsC.ls {v : Value} {ls : List Lf} {EB : Part} (h : LsC v ls EB) (H : St w0 X L w) (i : Nat) (hi : L[i]? = some EB) : LsR [] w v ls := (h.rd H i hi).ls
theorem mk5_get {ls : List Lf} {j : Nat} {u : Value} (hu : mk5[j]? = some u) : (ls.flatMap Lf.cs ++ mk5)[ls.length * 5 + j]? = some u := by
  have hl := flat5_len ls
  rw [List.getElem?_append_right (by omega), hl, Nat.add_sub_cancel_left]; exact hu
theorem lc_mk {v : Value} {ls : List Lf} {E F : Part} (h1 : BehP 74 5 v ls.length 1 (ls.flatMap Lf.cs ++ mk5) E) (h2 : LeafsW ls F) (hl : ls.length ≤ 1099511627776) (H : St w0 X (F :: E :: L) w) : LsC v ls (E ++ F) ∧ St w0 X ((E ++ F) :: L) w := by
  obtain ⟨H1, d1⟩ := H.join
  exact ⟨⟨E, F, rfl, h1, h2, d1, hl⟩, H1⟩
end
end Go.Proofs.Ytdcmbcjkdhdohaa
