/- Walks: Find's closures, BinarySearchFunc. -/
import Derived.Test.YtdcmbcjkdhdohaaRoots11
namespace Go.Proofs.Ytdcmbcjkdhdohaa
open Go Go.RowKit
set_option linter.unusedSimpArgs false
set_option linter.unusedVariables false
attribute [local irreducible] wpList wpP Code.wp

theorem mid_eq {n : Nat} (h : n < 9223372036854775808) : i64 (u64 (n : Int) >>> UInt64.ofNat 1) = ((n / 2 : Nat) : Int) := by
  have h1 : (u64 (n : Int) >>> UInt64.ofNat 1).toNat = n / 2 := by
    rw [UInt64.toNat_shiftRight, u64_nat (by omega)]
    show n >>> 1 = n / 2
    rw [Nat.shiftRight_eq_div_pow]
  unfold i64
  rw [h1]
  simp only [IntKind.wrap, IntKind.bits, IntKind.signed]
  simp
  omega
abbrev plcI (kind : Int) (key : List UInt8) (cs : List Cl) (j : Nat) : Int := plcC (cs.getD j c0).c.k (cs.getD j c0).c.key kind key
theorem ord_of {l : List Ce} (h : wrong l = 0) : ordered l := by
  unfold wrong at h
  split at h
  · split at h
    · assumption
    · omega
  · omega
theorem ahead_trans {k k2 k3 : Int} {a b c : List UInt8} (h : ahead k a k2 b) (h2 : ahead k2 b k3 c) : ahead k a k3 c := by
  rcases h with h | ⟨rfl, h⟩
  · rcases h2 with h2 | ⟨rfl, h2⟩
    · exact .inl (by omega)
    · exact .inl h
  · rcases h2 with h2 | ⟨rfl, h2⟩
    · exact .inl h2
    · exact .inr ⟨rfl, slt_trans h h2⟩
theorem ord_lt {cs : List Cl} (h : wrong (PL cs) = 0) : ∀ (d i : Nat), i + d + 1 < cs.length → ahead (cs.getD i c0).c.k (cs.getD i c0).c.key (cs.getD (i + d + 1) c0).c.k (cs.getD (i + d + 1) c0).c.key
  | 0, i, hi => ord_of h i _ _ (pl_get (by omega)) (pl_get (by omega))
  | d + 1, i, hi => ahead_trans (ord_lt h d i (by omega)) (ord_of h (i + d + 1) _ _ (pl_get (by omega)) (pl_get (by omega)))
theorem srt {kind : Int} {key : List UInt8} {cs : List Cl} {i j : Nat} (h : wrong (PL cs) = 0) (hij : i ≤ j) (hj : j < cs.length) (hp : plcI kind key cs j < 0) : plcI kind key cs i < 0 := by
  rcases Nat.lt_or_ge i j with h1 | h1
  · have := ord_lt h (j - i - 1) i (by omega)
    rw [show i + (j - i - 1) + 1 = j by omega] at this
    exact plc_neg.2 (ahead_trans this (plc_neg.1 hp))
  · rwa [show i = j by omega]
/-- A witness that grows: its block, its leaves. -/
def WitP (g : Nat) (n : Int) (ls : List Lf) (EW : Part) : Prop := ∃ lv EB, EW = ([(g, Rw 41 [I n, lv])] : Part) ++ EB ∧ LsP lv ls EB ∧ (∀ p ∈ ([(g, Rw 41 [I n, lv])] : Part), ∀ q ∈ EB, p.1 ≠ q.1)
theorem wit_new (g : Nat) (n : Int) : WitP g n [] [(g, Rw 41 [I n, .slice none 0 0])] := ⟨_, [], rfl, LsP.nil, by simp⟩
theorem wit_mk {g : Nat} {n : Int} {lv : Value} {ls : List Lf} {E F : Part} {w w0 : World} {X : List Nat} {L : List Part} (ho : OS 74 5 lv ls.length (ls.flatMap Lf.cs) E) (hF : LeafsP ls F) (hl : ls.length ≤ 1099511627776) (H : St w0 X (F :: E :: [(g, Rw 41 [I n, lv])] :: L) w) : WitP g n ls ([(g, Rw 41 [I n, lv])] ++ (E ++ F)) ∧ St w0 X (([(g, Rw 41 [I n, lv])] ++ (E ++ F)) :: L) w := by
  obtain ⟨H1, d1⟩ := H.join
  obtain ⟨H2, d2⟩ := H1.join
  exact ⟨⟨lv, E ++ F, rfl, ⟨E, F, rfl, ho, hF, d1, hl⟩, d2⟩, H2⟩
theorem flat5_snoc (ls : List Lf) (f : Lf) : (ls ++ [f]).flatMap Lf.cs = ls.flatMap Lf.cs ++ f.cs := by simp [List.flatMap_append]

attribute [local irreducible] leafH innerH topH rootH rootA sha checkA

theorem cmp_c (gk gq : Nat) (kind : Int) (key : List UInt8) (c : Cl) (w : World) (hC : CR [] w c) (hk : w.heap[gk]? = some (Rw 3 [I kind])) (hq : w.heap[gq]? = some (Rw 9 [.string (bst key)])) :
    Calls Try.prog 94 (([.agg ([I c.c.k, .string (bst c.c.key), c.v]).toArray, .agg ([I ((0 : Nat) : Int), .string .empty, .slice none 0 0]).toArray, Ad (bs gk) (0), Ad (bs gq) (0)] : List Value).toArray) w (fun e w' => ∃ v, e = .returned v ∧ v = I (plcC c.c.k c.c.key kind key) ∧ Below w.heap.size w w') := by
 refine calls_mk Try.func94 rfl 11 Try.ntmps94 rfl ?_
 have H0 : St w [] [] w := St.refl w
 refine c_seq ?_
 refine c_reg ?_
 refine st (ow_box (l := [I (c.c.k), .string (bst c.c.key), c.v]) H0 rfl rfl) ?_
 rintro _ w2 ⟨g1, rfl, H3⟩
 refine st (ow_box (l := [I ((0 : Nat) : Int), .string (.empty), .slice none 0 0]) H3 rfl rfl) ?_
 rintro _ w5 ⟨g4, rfl, H6⟩
 refine sy (v := I ((0 : Nat) : Int)) (y_assign (v := I ((0 : Nat) : Int)) rfl) ?_
 refine c_nil ?_
 refine n_then ?_
 refine c_seq ?_
 refine c_reg ?_
 refine sy (v := .agg ([I c.c.k, .string (bst c.c.key), c.v]).toArray) (y_loadA (us := [I (c.c.k), .string (bst c.c.key), c.v]) ag48 sz48 rfl rfl (fun j u hu => (H6.cell 1 rfl (by rw [Nat.zero_add]; exact hu)))) ?_
 refine sy (v := I (kind)) (y_load sc3 rfl (H6.oldCell hk (by simp) rfl)) ?_
 refine sy (v := .string (bst key)) (y_load sc9 rfl (H6.oldCell hq (by simp) rfl)) ?_
 refine st (ow_call fn89 rfl (place_c (c.c.k) (c.c.key) (c.v) (Rd.one (hC.1.st H6)) (kind) (key) _) ⟨rfl, rfl, rfl, trivial⟩) ?_
 rintro _ w7 ⟨rfl, hB8⟩
 have H9 : St w _ [_, _] w7 := H6.call hB8
 refine sy (v := I (plcC c.c.k c.c.key kind key)) (y_assign rfl) ?_
 refine c_nil ?_
 refine n_then ?_
 refine wp_ret ?_
 refine e_r1 Try.results94 (rv_t rfl) ?_
 exact ⟨_, rfl, rfl, H9.below⟩

theorem search_c (gk gq : Nat) (kind : Int) (key : List UInt8) (v0 : Value) (cs : List Cl) (w : World) (hC : CsR [] w v0 cs) (hwr : wrong (PL cs) = 0) (hk : w.heap[gk]? = some (Rw 3 [I kind])) (hq : w.heap[gq]? = some (Rw 9 [.string (bst key)])) :
    Calls Try.prog 93 (([v0, .agg ([I ((0 : Nat) : Int), .string .empty, .slice none 0 0]).toArray, .func (.func 94) #[] (#[Ad (bs gk) 0, Ad (bs gq) 0] : Array Value)] : List Value).toArray) w (fun e w' => ∃ v, e = .returned v ∧ ∃ p : Nat, v = .tuple #[I ((p : Nat) : Int), .bool (decide (hitAt kind key (PL cs) p))] ∧ IsP kind key (PL cs) p ∧ Below w.heap.size w w') := by
 have hle := hC.le
 refine calls_mk Try.func93 rfl 49 Try.ntmps93 rfl ?_
 have H0 : St w [] [] w := St.refl w
 refine c_seq ?_
 refine c_reg ?_
 refine st (ow_box (l := [I ((0 : Nat) : Int), .string (.empty), .slice none 0 0]) H0 rfl rfl) ?_
 rintro _ w2 ⟨g1, rfl, H3⟩
 refine sy (v := I ((0 : Nat) : Int)) (y_assign (v := I ((0 : Nat) : Int)) rfl) ?_
 refine sy (v := .bool (false)) (y_assign (v := .bool (false)) rfl) ?_
 refine c_nil ?_
 refine n_then ?_
 refine c_seq ?_
 refine c_reg ?_
 refine sy (v := v0) (y_move rfl) ?_
 refine sy (v := I ((cs.length : Nat) : Int)) (y_lenR Try.underlying38 (hC.st H3).rd rfl) ?_
 refine sy (v := I ((cs.length : Nat) : Int)) (y_assign rfl) ?_
 refine c_nil ?_
 refine n_then ?_
 refine c_seq ?_
 refine c_reg ?_
 refine sy (v := I ((cs.length : Nat) : Int)) (y_move rfl) ?_
 refine sy (v := I ((0 : Nat) : Int)) (y_assign (v := I ((0 : Nat) : Int)) rfl) ?_
 refine sy (v := I ((cs.length : Nat) : Int)) (y_assign rfl) ?_
 refine c_nil ?_
 refine n_then ?_
 refine c_seq ?_
 refine wp_block ?_
 refine c_loop (fun (m : Nat × Nat) f4 w5 => f4 0 = v0 ∧ f4 2 = .func (.func 94) #[] (#[Ad (bs gk) 0, Ad (bs gq) 0] : Array Value) ∧ f4 4 = Ad (bs g1) (0) ∧ f4 8 = I ((cs.length : Nat) : Int) ∧ f4 9 = I ((m.1 : Nat) : Int) ∧ f4 10 = I ((m.2 : Nat) : Int) ∧ m.1 ≤ m.2 ∧ m.2 ≤ cs.length ∧ (∀ j, j < m.1 → plcI kind key cs j < 0) ∧ (m.2 < cs.length → ¬ plcI kind key cs m.2 < 0) ∧ St w [] [[(g1, Rw 48 ([I ((0 : Nat) : Int), .string (.empty), .slice none 0 0]))]] w5) (fun m => m.2 - m.1) (0, cs.length) ⟨rfl, rfl, rfl, rfl, rfl, rfl, (Nat.zero_le _), (Nat.le_refl _), (fun j hj => absurd hj (Nat.not_lt_zero _)), (fun h => absurd h (Nat.lt_irrefl _)), H3⟩ ?_
 rintro m f4 w5 ⟨s0_6, s2_6, s4_6, s8_6, s9_6, s10_6, ha, hb, hlo, hhi, H6⟩
 refine c_seq ?_
 refine c_seq ?_
 refine c_reg ?_
 refine sy (v := I ((m.1 : Nat) : Int)) (y_move s9_6) ?_
 refine sy (v := I ((m.2 : Nat) : Int)) (y_move s10_6) ?_
 refine sy (v := .bool (decide (m.1 < m.2))) (n_lss (a := m.1) (b := m.2) rfl rfl) ?_
 refine c_nil ?_
 refine n_then ?_
 refine c_if rfl (fun hc7 => ?_) (fun hc7 => ?_)
 ·
  refine wp_skip ?_
  refine n_then ?_
  refine wp_block ?_
  refine c_seq ?_
  refine c_reg ?_
  refine sy (v := I ((m.1 : Nat) : Int)) (y_move s9_6) ?_
  refine sy (v := I ((m.2 : Nat) : Int)) (y_move s10_6) ?_
  refine sy (v := I ((m.1 + m.2 : Nat) : Int)) (n_add (a := m.1) (b := m.2) rfl rfl (by omega)) ?_
  refine sy (v := U64 (u64 ((m.1 + m.2 : Nat)))) (y_conv_I_64 Try.underlying3 Try.underlying105 rfl) ?_
  refine sy (v := U64 ((u64 ((m.1 + m.2 : Nat))) >>> UInt64.ofNat 1)) (n_shr64 (m := 1) (c := u64 ((m.1 + m.2 : Nat))) rfl rfl (by omega)) ?_
  have hm8 := mid_eq (n := m.1 + m.2) (by omega)
  refine sy (v := I (((m.1 + m.2) / 2 : Nat) : Int)) ((hm8 ▸ y_conv_64_I Try.underlying105 Try.underlying3 rfl)) ?_
  refine sy (v := I (((m.1 + m.2) / 2 : Nat) : Int)) (y_assign rfl) ?_
  refine c_nil ?_
  refine n_then ?_
  refine c_seq ?_
  refine drawS (.step 0 0 (.step 0 1 (.step 0 2 (.step 0 3 (.step 0 4 (.step 0 5 (.step 1 6 (.step 0 7 .nil)))))))) mixed H6 (by kernel_rfl) (by kernel_rfl) (by kernel_rfl) ?_
  intro w9 H10
  refine pt (v := .func (.func 94) #[] (#[Ad (bs gk) 0, Ad (bs gq) 0] : Array Value)) rfl (fun wS HS => y_move s2_6) ?_
  refine pt (v := v0) rfl (fun wS HS => y_move s0_6) ?_
  refine pt (v := I (((m.1 + m.2) / 2 : Nat) : Int)) rfl (fun wS HS => y_move rfl) ?_
  refine pt (v := Ad (sp (v0)) (((m.1 + m.2) / 2) * 3)) rfl (fun wS HS => y_ixR (m := (m.1 + m.2) / 2) Try.underlying38 sz48 (hC.st HS).rd (by decide) rfl rfl rfl (by omega)) ?_
  refine pt (v := .agg ([I ((cs.getD ((m.1 + m.2) / 2) c0).c.k), .string (bst ((cs.getD ((m.1 + m.2) / 2) c0).c.key)), (cs.getD ((m.1 + m.2) / 2) c0).v]).toArray) rfl (fun wS HS => y_loadA (us := (cs.getD ((m.1 + m.2) / 2) c0).cs) ag48 sz48 rfl rfl (fun j u hu => (hC.st HS).rd.cell _ _ (flat3_get (by omega) hu))) ?_
  refine pt (v := .agg ([I ((0 : Nat) : Int), .string .empty, .slice none 0 0]).toArray) rfl (fun wS HS => y_loadA (us := [I ((0 : Nat) : Int), .string (.empty), .slice none 0 0]) ag48 sz48 rfl s4_6 (fun j u hu => (HS.cell 0 rfl (by rw [Nat.zero_add]; exact hu)))) ?_
  refine pl rfl (ow_callC (args := [.agg ([I ((cs.getD ((m.1 + m.2) / 2) c0).c.k), .string (bst ((cs.getD ((m.1 + m.2) / 2) c0).c.key)), (cs.getD ((m.1 + m.2) / 2) c0).v]).toArray, .agg ([I ((0 : Nat) : Int), .string .empty, .slice none 0 0]).toArray]) (cap := [Ad (bs gk) 0, Ad (bs gq) 0]) fn94 rfl (cmp_c gk gq kind key (cs.getD ((m.1 + m.2) / 2) c0) _ (CR.st (hC.at (d := c0) (i := (m.1 + m.2) / 2) (by omega)) H10).nil (H10.oldB hk) (H10.oldB hq)) ⟨rfl, rfl, trivial⟩) ?_
  rintro _ w11 ⟨rfl, hB12⟩
  have H13 : St w _ [_] w11 := H10.call hB12
  refine ⟨H13, ?_⟩
  refine pt (v := .bool (decide ((plcC (cs.getD ((m.1 + m.2) / 2) c0).c.k (cs.getD ((m.1 + m.2) / 2) c0).c.key kind key) < ((0 : Nat) : Int)))) rfl (fun wS HS => y_lss (i := (plcC (cs.getD ((m.1 + m.2) / 2) c0).c.k (cs.getD ((m.1 + m.2) / 2) c0).c.key kind key)) (j := ((0 : Nat) : Int)) rfl rfl) ?_
  refine p_nil ?_
  refine n_then ?_
  refine c_if rfl (fun hc14 => ?_) (fun hc14 => ?_)
  ·
   refine c_reg ?_
   refine sy (v := I (((m.1 + m.2) / 2 : Nat) : Int)) (y_move rfl) ?_
   refine sy (v := I ((((m.1 + m.2) / 2) + 1 : Nat) : Int)) (n_add (a := (m.1 + m.2) / 2) (b := 1) rfl rfl (by omega)) ?_
   refine sy (v := I ((((m.1 + m.2) / 2) + 1 : Nat) : Int)) (y_assign rfl) ?_
   refine c_nil ?_
   refine n_block ?_
   exact lp_next (((m.1 + m.2) / 2) + 1, m.2) ⟨s0_6, s2_6, s4_6, s8_6, rfl, s10_6, (by dsimp only; omega), (by dsimp only; omega), (fun j hj => srt hwr (j := (m.1 + m.2) / 2) (by dsimp only at hj; omega) (by omega) (by assumption)), hhi, H13⟩ (by dsimp only; omega)
  ·
   refine c_reg ?_
   refine sy (v := I (((m.1 + m.2) / 2 : Nat) : Int)) (y_move rfl) ?_
   refine sy (v := I (((m.1 + m.2) / 2 : Nat) : Int)) (y_assign rfl) ?_
   refine c_nil ?_
   refine n_block ?_
   exact lp_next (m.1, (m.1 + m.2) / 2) ⟨s0_6, s2_6, s4_6, s8_6, s9_6, rfl, (by dsimp only; omega), (by dsimp only; omega), hlo, (fun _ => by assumption), H13⟩ (by dsimp only; omega)
 ·
  refine wp_exit ?_
  refine x_then (x_then (x_hit (n_then ?_)))
  refine c_seq ?_
  by_cases hp17 : m.1 < cs.length
  ·
   refine drawS (.step 0 0 (.step 0 1 (.step 0 2 (.step 0 3 (.step 0 4 (.step 0 5 (.step 0 6 (.step 0 7 (.step 0 8 (.step 0 9 (.step 0 10 (.step 1 11 (.step 0 12 (.step 0 13 (.step 0 14 (.step 2 15 .nil)))))))))))))))) mixed H6 (by kernel_rfl) (by kernel_rfl) (by kernel_rfl) ?_
   intro w18 H19
   refine pt (v := I ((m.1 : Nat) : Int)) rfl (fun wS HS => y_move s9_6) ?_
   refine pt (v := I ((m.1 : Nat) : Int)) rfl (fun wS HS => y_move s9_6) ?_
   refine pt (v := I ((cs.length : Nat) : Int)) rfl (fun wS HS => y_move s8_6) ?_
   refine pt (v := .bool (decide (m.1 < cs.length))) rfl (fun wS HS => n_lss (a := m.1) (b := cs.length) rfl rfl) ?_
   refine pt (v := .bool (decide (m.1 < cs.length))) rfl (fun wS HS => y_move rfl) ?_
   refine gpt (v := .func (.func 94) #[] (#[Ad (bs gk) 0, Ad (bs gq) 0] : Array Value)) rfl (gv_of (t := 39) rfl rfl rfl) (decide_eq_true hp17) (fun wS HS => y_move s2_6) ?_
   refine gpt (v := v0) rfl (gv_of (t := 39) rfl rfl rfl) (decide_eq_true hp17) (fun wS HS => y_move s0_6) ?_
   refine gpt (v := I ((m.1 : Nat) : Int)) rfl (gv_of (t := 39) rfl rfl rfl) (decide_eq_true hp17) (fun wS HS => y_move s9_6) ?_
   refine gpt (v := Ad (sp (v0)) (m.1 * 3)) rfl (gv_of (t := 39) rfl rfl rfl) (decide_eq_true hp17) (fun wS HS => y_ixR (m := m.1) Try.underlying38 sz48 (hC.st HS).rd (by decide) rfl rfl rfl (by omega)) ?_
   refine gpt (v := .agg ([I ((cs.getD m.1 c0).c.k), .string (bst ((cs.getD m.1 c0).c.key)), (cs.getD m.1 c0).v]).toArray) rfl (gv_of (t := 39) rfl rfl rfl) (decide_eq_true hp17) (fun wS HS => y_loadA (us := (cs.getD m.1 c0).cs) ag48 sz48 rfl rfl (fun j u hu => (hC.st HS).rd.cell _ _ (flat3_get (by omega) hu))) ?_
   refine gpt (v := .agg ([I ((0 : Nat) : Int), .string .empty, .slice none 0 0]).toArray) rfl (gv_of (t := 39) rfl rfl rfl) (decide_eq_true hp17) (fun wS HS => y_loadA (us := [I ((0 : Nat) : Int), .string (.empty), .slice none 0 0]) ag48 sz48 rfl s4_6 (fun j u hu => (HS.cell 0 rfl (by rw [Nat.zero_add]; exact hu)))) ?_
   refine gpl rfl (gv_of (t := 39) rfl rfl rfl) (decide_eq_true hp17) (ow_callC (args := [.agg ([I ((cs.getD m.1 c0).c.k), .string (bst ((cs.getD m.1 c0).c.key)), (cs.getD m.1 c0).v]).toArray, .agg ([I ((0 : Nat) : Int), .string .empty, .slice none 0 0]).toArray]) (cap := [Ad (bs gk) 0, Ad (bs gq) 0]) fn94 rfl (cmp_c gk gq kind key (cs.getD m.1 c0) _ (CR.st (hC.at (d := c0) (i := m.1) (by omega)) H19).nil (H19.oldB hk) (H19.oldB hq)) ⟨rfl, rfl, trivial⟩) ?_
   rintro _ w20 ⟨rfl, hB21⟩
   have H22 : St w _ [_] w20 := H19.call hB21
   refine ⟨H22, ?_⟩
   refine gpt (v := .bool (decide ((plcC (cs.getD m.1 c0).c.k (cs.getD m.1 c0).c.key kind key) = ((0 : Nat) : Int)))) rfl (gv_of (t := 39) rfl rfl rfl) (decide_eq_true hp17) (fun wS HS => y_eqlK (i := (plcC (cs.getD m.1 c0).c.k (cs.getD m.1 c0).c.key kind key)) (j := ((0 : Nat) : Int)) rfl rfl) ?_
   refine pt (v := .bool (decide ((plcC (cs.getD m.1 c0).c.k (cs.getD m.1 c0).c.key kind key) = ((0 : Nat) : Int)))) rfl (fun wS HS => y_pickT rfl (decide_eq_true hp17) rfl) ?_
   refine pt (v := I ((m.1 : Nat) : Int)) rfl (fun wS HS => y_assign rfl) ?_
   refine tly (v := .bool (decide ((plcC (cs.getD m.1 c0).c.k (cs.getD m.1 c0).c.key kind key) = ((0 : Nat) : Int)))) rfl (y_assign rfl) ?_
   refine p_nil ?_
   refine n_then ?_
   refine wp_ret ?_
   refine e_r2 Try.results93 (rv_t rfl) (rv_t rfl) ?_
   have hpe : m.1 = m.2 := by omega
   have hIs : IsP kind key (PL cs) m.1 := ⟨by rw [List.length_map]; omega, (fun j hj => by rw [pl_getD]; exact hlo j hj), (fun h => by rw [pl_getD, hpe]; rw [List.length_map, hpe] at h; exact hhi h)⟩
   have hh : decide (hitAt kind key (PL cs) m.1) = decide ((plcC (cs.getD m.1 c0).c.k (cs.getD m.1 c0).c.key kind key) = ((0 : Nat) : Int)) := decide_eq_decide.2 ⟨fun h => by have := h.2; rw [pl_getD] at this; exact this, fun h => ⟨by rw [List.length_map]; omega, by rw [pl_getD]; exact h⟩⟩
   exact ⟨_, rfl, _, by rw [hh]; rfl, hIs, H22.below⟩
  ·
   refine drawS (.step 0 0 (.step 0 1 (.step 0 2 (.step 0 3 (.step 0 4 (.step 0 5 (.step 0 6 (.step 0 7 (.step 0 8 (.step 0 9 (.step 0 10 (.step 0 11 (.step 0 12 (.step 0 13 (.step 0 14 (.step 2 15 .nil)))))))))))))))) mixed H6 (by kernel_rfl) (by kernel_rfl) (by kernel_rfl) ?_
   intro w25 H26
   refine pt (v := I ((m.1 : Nat) : Int)) rfl (fun wS HS => y_move s9_6) ?_
   refine pt (v := I ((m.1 : Nat) : Int)) rfl (fun wS HS => y_move s9_6) ?_
   refine pt (v := I ((cs.length : Nat) : Int)) rfl (fun wS HS => y_move s8_6) ?_
   refine pt (v := .bool (decide (m.1 < cs.length))) rfl (fun wS HS => n_lss (a := m.1) (b := cs.length) rfl rfl) ?_
   refine pt (v := .bool (decide (m.1 < cs.length))) rfl (fun wS HS => y_move rfl) ?_
   refine gpno rfl (gv_of (t := 39) rfl rfl rfl) (decide_eq_false hp17) ?_
   refine gpno rfl (gv_of (t := 39) rfl rfl rfl) (decide_eq_false hp17) ?_
   refine gpno rfl (gv_of (t := 39) rfl rfl rfl) (decide_eq_false hp17) ?_
   refine gpno rfl (gv_of (t := 39) rfl rfl rfl) (decide_eq_false hp17) ?_
   refine gpno rfl (gv_of (t := 39) rfl rfl rfl) (decide_eq_false hp17) ?_
   refine gpno rfl (gv_of (t := 39) rfl rfl rfl) (decide_eq_false hp17) ?_
   refine gpno rfl (gv_of (t := 39) rfl rfl rfl) (decide_eq_false hp17) ?_
   refine gpno rfl (gv_of (t := 39) rfl rfl rfl) (decide_eq_false hp17) ?_
   refine pt (v := .bool (false)) rfl (fun wS HS => y_pickF (v := .bool (false)) rfl (decide_eq_false hp17) rfl) ?_
   refine pt (v := I ((m.1 : Nat) : Int)) rfl (fun wS HS => y_assign rfl) ?_
   refine tly (v := .bool (false)) rfl (y_assign rfl) ?_
   refine p_nil ?_
   refine n_then ?_
   refine wp_ret ?_
   refine e_r2 Try.results93 (rv_t rfl) (rv_t rfl) ?_
   have hpe : m.1 = m.2 := by omega
   have hIs : IsP kind key (PL cs) m.1 := ⟨by rw [List.length_map]; omega, (fun j hj => by rw [pl_getD]; exact hlo j hj), (fun h => by rw [pl_getD, hpe]; rw [List.length_map, hpe] at h; exact hhi h)⟩
   have hh : decide (hitAt kind key (PL cs) m.1) = false := decide_eq_false (fun h => by have := h.1; rw [List.length_map] at this; omega)
   exact ⟨_, rfl, _, by rw [hh]; rfl, hIs, H26.below⟩

set_option maxRecDepth 20000 in
theorem lay_c (gL gW : Nat) (v0 : Value) (cs : List Cl) (n : Int) (ls : List Lf) (EW : Part) (i : Int) (w : World) (hW : WitP gW n ls EW) (hown : ∀ p ∈ EW, w.heap[p.1]? = some p.2) (hL : w.heap[gL]? = some (Rw 38 [v0])) (hgx : gL ∉ EW.map (·.1)) (hC : CsR (EW.map (·.1)) w v0 cs) (hls : ls.length ≤ 1048576) :
    Calls Try.prog 91 (([I (i), Ad (bs gL) (0), Ad (bs gW) (0)] : List Value).toArray) w (fun e w' => ∃ v, e = .returned v ∧ v = .tuple #[] ∧ ∃ ls' EW', WitP gW n ls' EW' ∧ ls'.length ≤ ls.length + 1 ∧ PE ls' = PE ls ++ (if 0 ≤ i ∧ i < (cs.length : Int) then [leafAt (PL cs) i.toNat] else []) ∧ St w (EW.map (·.1)) [EW'] w') := by
 obtain ⟨lv, EB, rfl, ⟨E, F, rfl, hoE, hF, hd2, hlen⟩, hd1⟩ := hW
 have hle := hC.le
 refine calls_mk Try.func91 rfl 27 Try.ntmps91 rfl ?_
 have H0 : St w (([(gW, Rw 41 [I n, lv])] ++ (E ++ F)).map (·.1)) [F, E, [(gW, Rw 41 ([I (n), lv]))]] w := ((St.initE hown).split hd1).split hd2
 refine c_seq ?_
 refine c_reg ?_
 refine sy (v := I (i)) (y_move rfl) ?_
 refine sy (v := .bool (decide (((0 : Nat) : Int) ≤ i))) (y_geq (i := i) (j := ((0 : Nat) : Int)) rfl rfl) ?_
 refine sy (v := .bool (decide (((0 : Nat) : Int) ≤ i))) (y_move rfl) ?_
 by_cases hp1 : ((0 : Nat) : Int) ≤ i
 ·
  refine gsy (v := I (i)) (gv_of (t := 6) rfl rfl rfl) (decide_eq_true hp1) (y_move rfl) ?_
  refine gsy (v := v0) (gv_of (t := 6) rfl rfl rfl) (decide_eq_true hp1) (y_load sc38 rfl (H0.oldCell hL hgx rfl)) ?_
  refine gsy (v := I ((cs.length : Nat) : Int)) (gv_of (t := 6) rfl rfl rfl) (decide_eq_true hp1) (y_lenR Try.underlying38 (hC.st H0).rd rfl) ?_
  refine gsy (v := .bool (decide (i < ((cs.length : Nat) : Int)))) (gv_of (t := 6) rfl rfl rfl) (decide_eq_true hp1) (y_lss (i := i) (j := ((cs.length : Nat) : Int)) rfl rfl) ?_
  refine sy (v := .bool (decide (i < ((cs.length : Nat) : Int)))) (y_pickT rfl (decide_eq_true hp1) rfl) ?_
  refine c_nil ?_
  refine n_then ?_
  refine c_if rfl (fun hc2 => ?_) (fun hc2 => ?_)
  ·
   obtain ⟨q, rfl⟩ : ∃ q : Nat, i = (q : Int) := ⟨i.toNat, by omega⟩
   have hql : q < cs.length := by omega
   have hsm := (hC.at (d := c0) (i := q) hql).2
   have hplen := pathC_len cs q
   have H3 : St w _ [_, _, _] w := H0.foc 1 rfl rfl
   refine drawSub (.step 0 0 (.step 0 1 (.step 0 2 (.step 0 3 (.step 0 4 (.step 0 5 (.step 0 6 (.step 0 8 (.step 0 9 (.step 1 7 (.step 1 10 (.step 0 11 (.step 1 12 (.step 1 13 (.step 2 14 (.step 2 15 .nil)))))))))))))))) mixed H3 (fun _ h => h.drop) (by kernel_rfl) (by kernel_rfl) (by kernel_rfl) ?_
   intro w4 H5
   refine pt (v := Ad (bs gW) (0 + 1)) rfl (fun wS HS => y_fld Try.underlying41 rfl rfl sz39 (by decide) rfl) ?_
   refine pt (v := lv) rfl (fun wS HS => y_load sc39 rfl (HS.cell 1 rfl rfl)) ?_
   refine pt (v := I ((q : Nat) : Int)) rfl (fun wS HS => y_move rfl) ?_
   refine pt (v := v0) rfl (fun wS HS => y_load sc38 rfl (HS.oldCell hL hgx rfl)) ?_
   refine pt (v := I ((q : Nat) : Int)) rfl (fun wS HS => y_move rfl) ?_
   refine pt (v := Ad (sp (v0)) (q * 3)) rfl (fun wS HS => y_ixR (m := q) Try.underlying38 sz48 (hC.st HS).rd (by decide) rfl rfl rfl (by omega)) ?_
   refine pt (v := .agg ([I ((cs.getD q c0).c.k), .string (bst ((cs.getD q c0).c.key)), (cs.getD q c0).v]).toArray) rfl (fun wS HS => y_loadA (us := (cs.getD q c0).cs) ag48 sz48 rfl rfl (fun j u hu => (hC.st HS).rd.cell _ _ (flat3_get (by omega) hu))) ?_
   refine pt (v := v0) rfl (fun wS HS => y_load sc38 rfl (HS.oldCell hL hgx rfl)) ?_
   refine pt (v := I ((q : Nat) : Int)) rfl (fun wS HS => y_move rfl) ?_
   refine pl rfl (ow_call fn90 rfl (own_c (cs.getD q c0) _ (CR.st (hC.at (d := c0) (i := q) (by omega)) H5).nil) ⟨rfl, trivial⟩) ?_
   rintro _ w8 ⟨v6, E7, rfl, ho10, H9⟩
   have H11 : St w _ [_, _, _, _] w8 := H5.app H9
   have H12 : St w _ [_, _, _, _] w8 := H11.foc 3 rfl rfl
   have H13 : St w _ [_, _, _, _] w8 := H12.foc 3 rfl rfl
   have H14 : St w _ [_, _] w8 := H13.take 2 rfl
   refine ⟨H14, ?_⟩
   refine pl rfl (ow_call fn92 rfl (path_c cs v0 q _ (hC.st H11).nil (by first | omega | (simp only [List.length_take, List.length_drop]; omega))) ⟨rfl, rfl, trivial⟩) ?_
   rintro v15 w17 ⟨E16, ho19, H18⟩
   have H20 : St w _ [_, _, _, _, _] w17 := H11.app H18
   have H21 : St w _ [_, _, _, _, _] w17 := H20.foc 4 rfl rfl
   have H22 : St w _ [_, _, _, _, _] w17 := H21.foc 4 rfl rfl
   have H23 : St w _ [_, _] w17 := H22.take 2 rfl
   refine ⟨H23, ?_⟩
   obtain ⟨pa24, pc25, rfl, -⟩ := (ho19.rd H20 0 rfl).shape
   refine pt (v := .agg ([I ((q : Nat) : Int), I ((cs.getD q c0).c.k), .string (bst ((cs.getD q c0).c.key)), v6, (.slice pa24 ((pathOf (PL cs) q).length) pc25)]).toArray) rfl (fun wS HS => y_build (pv := [(0, I ((q : Nat) : Int)), (1, .agg ([I ((cs.getD q c0).c.k), .string (bst ((cs.getD q c0).c.key)), v6]).toArray), (2, (.slice pa24 ((pathOf (PL cs) q).length) pc25))]) (us := [I ((q : Nat) : Int), I ((cs.getD q c0).c.k), .string (bst ((cs.getD q c0).c.key)), v6, (.slice pa24 ((pathOf (PL cs) q).length) pc25)]) ⟨⟨rfl, rfl⟩, ⟨rfl, rfl⟩, ⟨rfl, rfl⟩, trivial⟩ (by kernel_rfl)) ?_
   refine pl rfl (ow_buildSlice (pv := [(0, .agg ([I ((q : Nat) : Int), I ((cs.getD q c0).c.k), .string (bst ((cs.getD q c0).c.key)), v6, (.slice pa24 ((pathOf (PL cs) q).length) pc25)]).toArray)]) (us := [I ((q : Nat) : Int), I ((cs.getD q c0).c.k), .string (bst ((cs.getD q c0).c.key)), v6, (.slice pa24 ((pathOf (PL cs) q).length) pc25)]) Try.underlying39 sz74 zr74 H20 ⟨⟨rfl, rfl⟩, trivial⟩ (by decide) (by kernel_rfl)) ?_
   rintro _ w27 ⟨g26, rfl, H28⟩
   have H29 : St w _ [_, _, _, _, _, _] w27 := H28.foc 5 rfl rfl
   have H30 : St w _ [_, _, _, _, _, _] w27 := H29.foc 5 rfl rfl
   have H31 : St w _ [_, _] w27 := H30.take 2 rfl
   refine ⟨H31, ?_⟩
   have H37 : St w _ [_, _, _, _, _, _] w27 := H28.foc 3 rfl rfl
   refine pl rfl (ow_append (m := 1) (news := [I ((q : Nat) : Int), I ((cs.getD q c0).c.k), .string (bst ((cs.getD q c0).c.key)), v6, (.slice pa24 ((pathOf (PL cs) q).length) pc25)]) Try.underlying39 sz74 zr74 bt74 rfl hoE H37 rfl rfl (((H37.rd (n := 1) (s := 5) (cap := 1) 1 rfl (by simp) ⟨Nat.le_refl _, by simp [maxLen]⟩).src Try.underlying39 (by intro u hu; simp only [List.mem_cons, List.not_mem_nil, or_false] at hu; rcases hu with rfl | rfl | rfl | rfl | rfl <;> first | rfl | exact Rd.one (ho10.rd H37 3 rfl) | exact Rd.one (ho19.rd H37 2 rfl)))) (by omega) (by omega)) ?_
   rintro v33 w34 ⟨E32, ho36', H35⟩
   have ho36 : OS 74 5 v33 (ls ++ [(⟨(q : Int), ⟨(cs.getD q c0).c, v6⟩, (.slice pa24 ((pathOf (PL cs) q).length) pc25), pathOf (PL cs) q⟩ : Lf)]).length ((ls ++ [(⟨(q : Int), ⟨(cs.getD q c0).c, v6⟩, (.slice pa24 ((pathOf (PL cs) q).length) pc25), pathOf (PL cs) q⟩ : Lf)]).flatMap Lf.cs) E32 := by rw [flat5_snoc, List.length_append]; exact ho36'
   have H38 : St w _ [_, _, _, _, _, _] w34 := H35.foc 5 rfl rfl
   have H39 : St w _ [_, _, _, _, _, _] w34 := H38.foc 5 rfl rfl
   have H40 : St w _ [_, _] w34 := H39.take 2 rfl
   refine ⟨H40, ?_⟩
   refine tly (v := Ad (bs gW) (0 + 1)) rfl (y_fld Try.underlying41 rfl rfl sz39 (by decide) rfl) ?_
   have H41 : St w _ [_, _, _, _, _, _] w34 := H35.foc 5 rfl rfl
   refine t0 rfl (ow_store (j := 1) H41 sz39 rfl rfl (Rd.one (ho36.rd H41 1 rfl)) rfl (by simp)) ?_
   rintro _ w42 H43'
   have H43 : St w _ [[(gW, Rw 41 ([I (n), v33]))], _, _, _, _, _] w42 := H43'
   refine p_nil ?_
   refine e_end0 Try.results91 ?_
   have H44 : St w _ [_, _, _, _, _, _] w42 := H43.foc 1 rfl rfl
   have H45 : St w _ [_, _, _, _, _, _] w42 := H44.foc 5 rfl rfl
   have H46 : St w _ [_, _, _, _, _, _] w42 := H45.foc 5 rfl rfl
   have H47 : St w _ [_, _, _, _, _, _] w42 := H46.foc 5 rfl rfl
   have H48 : St w _ [_, _, _, _, _] w42 := H47.take 5 rfl
   obtain ⟨H49, hdl⟩ := H48.join
   obtain ⟨H50, hdf⟩ := H49.join
   have hlp : LeafP (⟨(q : Int), ⟨(cs.getD q c0).c, v6⟩, (.slice pa24 ((pathOf (PL cs) q).length) pc25), pathOf (PL cs) q⟩ : Lf) (E7 ++ E16) := ⟨_, _, rfl, ho10, ho19, hsm, pathC_h32 cs q, by show (pathOf (PL cs) q).length ≤ _; omega, hdl⟩
   have hle2 : (⟨(q : Int), ⟨(cs.getD q c0).c, v6⟩, (.slice pa24 ((pathOf (PL cs) q).length) pc25), pathOf (PL cs) q⟩ : Lf).e = leafAt (PL cs) q := by
    unfold leafAt; rw [pl_getD]
   obtain ⟨hw1, hw2⟩ := wit_mk (g := gW) (n := n) ho36 (LeafsP.snoc hlp hF hdf) (by rw [List.length_append, List.length_singleton]; omega) H50
   exact ⟨_, rfl, rfl, _, _, hw1, by rw [List.length_append, List.length_singleton]; omega, by rw [if_pos (by omega), PE, PE, List.map_append, List.map_singleton, hle2]; rfl, hw2⟩
  ·
   refine wp_skip ?_
   refine e_end0 Try.results91 ?_
   obtain ⟨hw1, hw2⟩ := wit_mk hoE hF hlen H0
   exact ⟨_, rfl, rfl, ls, _, hw1, by omega, by rw [if_neg (by omega), List.append_nil], hw2⟩
 ·
  refine gno (gv_of (t := 6) rfl rfl rfl) (decide_eq_false hp1) ?_
  refine gno (gv_of (t := 6) rfl rfl rfl) (decide_eq_false hp1) ?_
  refine gno (gv_of (t := 6) rfl rfl rfl) (decide_eq_false hp1) ?_
  refine gno (gv_of (t := 6) rfl rfl rfl) (decide_eq_false hp1) ?_
  refine sy (v := .bool (false)) (y_pickF (v := .bool (false)) rfl (decide_eq_false hp1) rfl) ?_
  refine c_nil ?_
  refine n_then ?_
  refine c_f rfl rfl ?_
  refine wp_skip ?_
  refine e_end0 Try.results91 ?_
  obtain ⟨hw1, hw2⟩ := wit_mk hoE hF hlen H0
  exact ⟨_, rfl, rfl, ls, _, hw1, by omega, by rw [if_neg (by omega), List.append_nil], hw2⟩

end Go.Proofs.Ytdcmbcjkdhdohaa
