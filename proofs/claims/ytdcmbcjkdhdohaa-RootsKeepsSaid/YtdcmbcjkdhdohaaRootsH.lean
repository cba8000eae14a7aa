/- Cells of ours with a mark behind them, their values with marks behind. -/
import Derived.Test.YtdcmbcjkdhdohaaKeeps2
namespace Go.Proofs.Ytdcmbcjkdhdohaa
open Go Go.RowKit
set_option linter.unusedSimpArgs false
set_option linter.unusedVariables false
def mkK : List UInt8 := [109, 97, 114, 107]
def mk3 : List Value := [I (-5), .string (bst mkK), .slice none 0 0]
/-- What is read of bytes with marks behind. -/
def WideR (w : World) (v : Value) (l : List UInt8) : Prop := ∃ p cap, v = .slice (some p) l.length cap ∧ l.length + 7 ≤ cap ∧ cap ≤ maxLen ∧ Rd [] w 1 (.slice (some p) (l.length + 7) cap) (l ++ m7).length ((l ++ m7).map B8)
/-- Values of cells of ours. -/
def CellsW : List Cl → Part → Prop
  | [], F => F = []
  | c :: cs, F => ∃ F1 F2, F = F1 ++ F2 ∧ WideP c.v c.c.l F1 ∧ small c.c ∧ CellsW cs F2 ∧ (∀ p ∈ F1, ∀ q ∈ F2, p.1 ≠ q.1)
theorem CellsW.snoc {c : Cl} {E : Part} (hc : WideP c.v c.c.l E) (hs : small c.c) : ∀ {cs : List Cl} {F : Part}, CellsW cs F → (∀ p ∈ F, ∀ q ∈ E, p.1 ≠ q.1) → CellsW (cs ++ [c]) (F ++ E)
  | [], _, h, hd => by cases h; exact ⟨E, [], by simp, hc, hs, rfl, by simp⟩
  | _ :: _, _, ⟨F1, F2, e, h1, h2, h3, h4⟩, hd => by
    subst e
    refine ⟨F1, F2 ++ E, by rw [List.append_assoc], h1, h2, CellsW.snoc hc hs h3 (fun p hp q hq => hd p (List.mem_append_right _ hp) q hq), fun p hp q hq => ?_⟩
    rcases List.mem_append.1 hq with hq | hq
    · exact h4 p hp q hq
    · exact hd p (List.mem_append_left _ hp) q hq
theorem CellsW.rd {w w0 : World} {X : List Nat} {L : List Part} : ∀ {cs : List Cl} {F : Part}, CellsW cs F → St w0 X (F :: L) w → ∀ c ∈ cs, small c.c ∧ WideR w c.v c.c.l ∧ Rd [] w 1 c.v c.c.l.length (c.c.l.map B8)
  | [], _, _, _, c, hc => absurd hc (by simp)
  | d :: cs, _, ⟨F1, F2, e, h1, h2, h3, h4⟩, H, c, hc => by
    subst e
    rcases List.mem_cons.1 hc with rfl | hc
    · exact ⟨h2, h1.rd7 H.subL 0 rfl, h1.os.rd H.subL 0 rfl⟩
    · exact CellsW.rd h3 H.subR c hc
/-- A slice of cells of ours with a mark behind it. -/
def WSl (v : Value) (cs : List Cl) (E : Part) : Prop := ∃ g cap cur, v = .slice (some (bs g)) cs.length cap ∧ E = [(g, Rw 48 cur)] ∧ cs.length + 1 ≤ cap ∧ cap ≤ maxLen ∧ cur.length = cap * 3 ∧ cur.take ((cs.length + 1) * 3) = cs.flatMap Cl.cs ++ mk3
def WCs (v : Value) (cs : List Cl) (EB : Part) : Prop := ∃ E F, EB = E ++ F ∧ WSl v cs E ∧ CellsW cs F ∧ (∀ p ∈ E, ∀ q ∈ F, p.1 ≠ q.1) ∧ cs.length ≤ 1099511627776
section
variable {w w0 : World} {X : List Nat} {L : List Part} {v : Value} {cs : List Cl} {E : Part}
theorem wsl_of {tv : Value} (h : OS 48 3 tv (cs.length + 1) (cs.flatMap Cl.cs ++ mk3) E) : WSl (slv 3 0 cs.length tv) cs E := by
  rcases h with ⟨-, h, -⟩ | ⟨g, cap, cur, rfl, rfl, h1, h2, h3, h4⟩
  · omega
  · refine ⟨g, cap, cur, ?_, rfl, by omega, h2, h3, h4⟩
    show Value.slice (if cap = 0 then some (bs g) else (some (bs g)).map (·.add (0 * 3))) (cs.length - 0) (cap - 0) = _
    rw [if_neg (by omega)]
    rfl
/-- What is read of such cells. -/
structure KR (w : World) (p : Addr) (cap : Nat) (cs : List Cl) : Prop where
  cap1 : cs.length + 1 ≤ cap
  cap2 : cap ≤ maxLen
  rd : Rd [] w 3 (.slice (some p) (cs.length + 1) cap) (cs.length + 1) (cs.flatMap Cl.cs ++ mk3)
  each : ∀ c ∈ cs, small c.c ∧ WideR w c.v c.c.l ∧ Rd [] w 1 c.v c.c.l.length (c.c.l.map B8)
  le : cs.length ≤ 1099511627776
theorem WCs.kr {EB : Part} (h : WCs v cs EB) (H : St w0 X L w) (i : Nat) (hi : L[i]? = some EB) : ∃ p cap, v = .slice (some p) cs.length cap ∧ KR w p cap cs := by
  obtain ⟨E, F, rfl, ⟨g, cap, cur, rfl, rfl, h1, h2, h3, h4⟩, hF, hd, hl⟩ := h
  have H1 := H.foc i hi rfl
  have hr := H1.subL.rd (n := cs.length + 1) (s := 3) (cap := cap) 0 rfl (by have : (cs.length + 1) * 3 ≤ cap * 3 := Nat.mul_le_mul_right _ h1; omega) ⟨h1, h2⟩
  rw [h4] at hr
  exact ⟨bs g, cap, rfl, h1, h2, hr, hF.rd H1.subR, hl⟩
theorem KR.csr {p : Addr} {cap : Nat} (h : KR w p cap cs) : CsR [] w (.slice (some p) cs.length cap) cs := by
  have h1 := h.rd.fst (m := cs.length) (by omega)
  have hl := flat3_len cs
  rw [List.take_left' (by rw [hl])] at h1
  exact ⟨h1, fun c hc => ⟨(h.each c hc).2.2, (h.each c hc).1⟩, h.le⟩
theorem KR.at {p : Addr} {cap i : Nat} {d : Cl} (h : KR w p cap cs) (hi : i < cs.length) : WideR w (cs.getD i d).v (cs.getD i d).c.l := by
  rw [List.getD_eq_getElem?_getD, List.getElem?_eq_getElem hi]; exact (h.each _ (List.getElem_mem hi)).2.1
theorem mk_get {j : Nat} {u : Value} (hu : mk3[j]? = some u) : (cs.flatMap Cl.cs ++ mk3)[cs.length * 3 + j]? = some u := by
  have hl := flat3_len cs
  rw [List.getElem?_append_right (by omega), hl, Nat.add_sub_cancel_left]; exact hu
theorem WCs.csr {EB : Part} (h : WCs v cs EB) (H : St w0 X L w) (i : Nat) (hi : L[i]? = some EB) : CsR [] w v cs := by
  obtain ⟨p, cap, rfl, hk⟩ := h.kr H i hi
  exact hk.csr
end
end Go.Proofs.Ytdcmbcjkdhdohaa
