/- Walks: bad, head and Open of sealed messages. -/
import Derived.Test.YtdcmbcjkdhdohaaDoorOpenP
namespace Go.Proofs.YtdcmbcjkdhdohaaDoor
open Go Go.RowKit
set_option linter.unusedSimpArgs false
set_option linter.unusedVariables false
attribute [local irreducible] wpList wpP Code.wp

theorem bad_c (q i : Nat) (w : World) :
    Calls Tryd.prog 17 (([I ((q : Nat) : Int), I ((i : Nat) : Int)] : List Value).toArray) w (fun e w' => ∃ v, e = .returned v ∧ ∃ g, v = .iface 46 (Ad (bs g) 0) ∧ St w [] [[(g, Rw 50 [I (q : Int), I (i : Int)])]] w') := by
  refine calls_mk Tryd.func17 rfl 10 Tryd.ntmps17 rfl ?_
  have H0 : St w [] [] w := St.refl w
  refine c_seq ?_
  refine c_reg ?_
  refine sy (v := .nilIface) (y_assign (v := .nilIface) rfl) ?_
  refine c_nil ?_
  refine n_then ?_
  refine c_seq ?_
  refine c_reg ?_
  refine sy (v := I ((q : Nat) : Int)) (y_move rfl) ?_
  refine sy (v := I ((i : Nat) : Int)) (y_move rfl) ?_
  refine sy (v := .agg ([I ((q : Nat) : Int), I ((i : Nat) : Int)]).toArray) (y_build (pv := [(0, I ((q : Nat) : Int)), (1, I ((i : Nat) : Int))]) (us := [I ((q : Nat) : Int), I ((i : Nat) : Int)]) ⟨⟨rfl, rfl⟩, ⟨rfl, rfl⟩, trivial⟩ (by kernel_rfl)) ?_
  refine st (ow_box (l := [I ((q : Nat) : Int), I ((i : Nat) : Int)]) H0 rfl rfl) ?_
  rintro _ w2 ⟨g1, rfl, H3⟩
  refine sy (v := .iface 46 (Ad (bs g1) (0))) (y_mkI (v := Ad (bs g1) (0)) Tryd.underlying46 rfl rfl) ?_
  refine sy (v := .iface 46 (Ad (bs g1) (0))) (y_assign rfl) ?_
  refine c_nil ?_
  refine n_then ?_
  refine wp_ret ?_
  refine e_r1 Tryd.results17 (rv_t rfl) ?_
  exact ⟨_, rfl, _, rfl, H3⟩

section
variable {b : List UInt8} {i : Nat}
theorem hdM_len {k : Nat} (h : b.length ≤ i) : hdM b (k + 1) i = some (20, i) := by simp only [hdM]; rw [if_pos h]
theorem hdM_bad {k : Nat} (h : ¬ b.length ≤ i) (h2 : b.getD i 0 ≠ markL.getD i 0) : hdM b (k + 1) i = some (5, i) := by simp only [hdM]; rw [if_neg h, if_pos h2]
theorem hdM_go {k : Nat} (h : ¬ b.length ≤ i) (h2 : ¬ b.getD i 0 ≠ markL.getD i 0) : hdM b (k + 1) i = hdM b k (i + 1) := by simp only [hdM]; rw [if_neg h, if_neg h2]
theorem hdR_len {k : Nat} (h : b.length ≤ i) : hdR b (k + 1) i = some (20, i) := by simp only [hdR]; rw [if_pos h]
theorem hdR_bad {k : Nat} (h : ¬ b.length ≤ i) (h2 : ¬ repl ((b.getD i 0).toNat : Int)) : hdR b (k + 1) i = some (1, i) := by simp only [hdR]; rw [if_neg h, if_pos h2]
theorem hdR_go {k : Nat} (h : ¬ b.length ≤ i) (h2 : ¬ ¬ repl ((b.getD i 0).toNat : Int)) : hdR b (k + 1) i = hdR b k (i + 1) := by simp only [hdR]; rw [if_neg h, if_neg h2]
theorem sub_succ {n i : Nat} (h : i < n) : n - i = (n - (i + 1)) + 1 := by omega
variable {e : Nat × Nat}
theorem hdE_m (h : hdM b 4 0 = some e) : hdE b = some e := by unfold hdE; rw [h]
theorem hdE_r (h : hdM b 4 0 = none) (h2 : hdR b 2 4 = some e) : hdE b = some e := by unfold hdE; rw [h, h2]
theorem hdE_s (h : hdM b 4 0 = none) (h2 : hdR b 2 4 = none) (h3 : b.length < 10) : hdE b = some (20, 6) := by unfold hdE; rw [h, h2]; simp only []; rw [if_pos h3]
theorem hdE_o (h : hdM b 4 0 = none) (h2 : hdR b 2 4 = none) (h3 : ¬ b.length < 10) (h4 : 2097152 < hdN b) : hdE b = some (22, 6) := by unfold hdE; rw [h, h2]; simp only []; rw [if_neg h3, if_pos h4]
theorem hdE_k (h : hdM b 4 0 = none) (h2 : hdR b 2 4 = none) (h3 : ¬ b.length < 10) (h4 : ¬ 2097152 < hdN b) : hdE b = none := by unfold hdE; rw [h, h2]; simp only []; rw [if_neg h3, if_neg h4]
variable {lk : List UInt8} {q : Nat}
theorem opE_k (h : lk.length ≠ 32) : opE lk b = some (1, none) := by unfold opE; rw [if_pos h]
theorem opE_h (h : ¬ lk.length ≠ 32) (h2 : hdE b = some (q, i)) : opE lk b = some (q, some i) := by unfold opE; rw [if_neg h, h2]
theorem opE_s (h : ¬ lk.length ≠ 32) (h2 : hdE b = none) (h3 : b.length < hdN b + 42) : opE lk b = some (20, some 10) := by unfold opE; rw [if_neg h, h2]; simp only []; rw [if_pos h3]
theorem opE_r (h : ¬ lk.length ≠ 32) (h2 : hdE b = none) (h3 : ¬ b.length < hdN b + 42) (h4 : hdN b + 42 < b.length) : opE lk b = some (23, some (hdN b + 42)) := by unfold opE; rw [if_neg h, h2]; simp only []; rw [if_neg h3, if_pos h4]
theorem opE_m (h : ¬ lk.length ≠ 32) (h2 : hdE b = none) (h3 : ¬ b.length < hdN b + 42) (h4 : ¬ hdN b + 42 < b.length) (h5 : b.drop (10 + hdN b) ≠ hmac lk (b.take (10 + hdN b))) : opE lk b = some (30, some (10 + hdN b)) := by
  unfold opE; rw [if_neg h, h2]; simp only []; rw [if_neg h3, if_neg h4, if_pos h5]
theorem opE_y (h : ¬ lk.length ≠ 32) (h2 : hdE b = none) (h3 : ¬ b.length < hdN b + 42) (h4 : ¬ hdN b + 42 < b.length) (h5 : ¬ b.drop (10 + hdN b) ≠ hmac lk (b.take (10 + hdN b))) : opE lk b = none := by
  unfold opE; rw [if_neg h, h2]; simp only []; rw [if_neg h3, if_neg h4, if_neg h5]
end
theorem some2 {x : Option (Nat × Nat)} (h : ¬ x = none) : ∃ e i, x = some (e, i) := by
  cases x with
  | none => exact absurd rfl h
  | some p => exact ⟨p.1, p.2, rfl⟩
theorem hdN_le {b : List UInt8} (h : hdE b = none) : hdN b ≤ 2097152 := (hdE_none.1 h).2.2.2.2
theorem or_add {a c k : Nat} (h : a < 2 ^ k) : a ||| c * 2 ^ k = a + c * 2 ^ k := by
  rw [Nat.or_comm, Nat.mul_comm c, ← Nat.two_pow_add_eq_or_of_lt h]; omega
theorem lay_full {l : List UInt8} {n : Nat} (h : l.length = n) : lay (List.replicate n 0) 0 l = l := by
  simp only [lay, List.take_zero, List.nil_append, Nat.zero_add, List.drop_replicate, h, Nat.sub_self, List.replicate_zero, List.append_nil]
section
variable {P : Program} {n : Nat} {f : Nat → Value} {ty t t2 : TypeId} {w : World} {x y ix : Operand}
theorem n_orA {a c k : Nat} (hx : ev n f x = I (a : Int)) (hy : ev n f y = I ((c * 2 ^ k : Nat) : Int)) (h : a < 2 ^ k) (h2 : a < 4294967296) (h3 : c * 2 ^ k < 4294967296) : Y P n f (.binOp .or t x y t2) ty w (I ((a + c * 2 ^ k : Nat) : Int)) w := by
  have := n_or (P := P) (ty := ty) (w := w) (t := t) (t2 := t2) hx hy h2 h3
  rwa [or_add h] at this
theorem n_orB {a c k m : Nat} (hm : a + c * 2 ^ k = m) (hx : ev n f x = I (a : Int)) (hy : ev n f y = I ((c * 2 ^ k : Nat) : Int)) (h : a < 2 ^ k) (h2 : a < 4294967296) (h3 : c * 2 ^ k < 4294967296) : Y P n f (.binOp .or t x y t2) ty w (I ((m : Nat) : Int)) w := hm ▸ n_orA hx hy h h2 h3
theorem y_ixStr {l : List UInt8} {m : Nat} {k : IntKind} {i : Int} (hu : P.underlying t = some .string) (hx : ev n f x = .string ⟨l.toArray⟩) (hi : ev n f ix = .int k i) (hm : i = (m : Int)) (hlt : m < l.length) : Y P n f (.index t x ix) ty w (B8 (l.getD m 0)) w := by
  intro o ho _
  subst hm
  have h1 : (0 : Int) ≤ (m : Int) := by omega
  have h2 : (⟨l.toArray⟩ : ByteArray)[m]? = some (l.getD m 0) := by
    have h3 : m < (⟨l.toArray⟩ : ByteArray).size := by show m < l.toArray.size; simpa using hlt
    rw [getElem?_pos _ m h3]
    show some (l.toArray[m]'_) = _
    simp [List.getD_eq_getElem?_getD, List.getElem?_eq_getElem hlt]
  simp [execOp, ho, hx, hi, Instr.index, asIntOf, run_underlying hu, h1, h2]
theorem y_eqlNil {ms : Array (String × TypeId)} {u : TypeId} {v : Value} (hu : P.underlying t = some (.interface ms)) (hx : ev n f x = .iface u v) : Y P n f (.binOp .eql t x (.const .nilIface) t2) ty w (.bool false) w := by
  intro o ho _
  have hb : (Go.binOp .eql t (.iface u v) .nilIface).run P w = .ok (.bool false) w := by
    have h1 := eqI_no (w := w) 9999 (u := u) (v := v) hu
    show ((do pure (Value.bool (← Op.equal t (.iface u v) .nilIface))) : Sem Value).run P w = _
    rw [Sem.run_bind, show Op.equal t (.iface u v) .nilIface = Op.equalIn (9999 + 1) t (.iface u v) .nilIface from rfl, h1]; rfl
  have he : ev n f (.const .nilIface) = .nilIface := rfl
  have hg : (eqGuard .eql t x (.const .nilIface) (.iface u v) .nilIface).run P w = .ok PUnit.unit w := by simp [eqGuard]
  simp [execOp, ho, hx, he, hb, hg]
theorem y_eqlNil0 {ms : Array (String × TypeId)} (hu : P.underlying t = some (.interface ms)) (hx : ev n f x = .nilIface) : Y P n f (.binOp .eql t x (.const .nilIface) t2) ty w (.bool true) w := by
  intro o ho _
  have hb : (Go.binOp .eql t .nilIface .nilIface).run P w = .ok (.bool true) w := by
    have h1 := eqI_yes (w := w) 9999 hu
    show ((do pure (Value.bool (← Op.equal t .nilIface .nilIface))) : Sem Value).run P w = _
    rw [Sem.run_bind, show Op.equal t .nilIface .nilIface = Op.equalIn (9999 + 1) t .nilIface .nilIface from rfl, h1]; rfl
  have he : ev n f (.const .nilIface) = .nilIface := rfl
  have hg : (eqGuard .eql t x (.const .nilIface) .nilIface .nilIface).run P w = .ok PUnit.unit w := by simp [eqGuard]
  simp [execOp, ho, hx, he, hb, hg]
end
/-- The number that head tells. -/
def hdV (b : List UInt8) : Nat := if hdE b = none then hdN b else 0
/-- Open's error, and the memory that it stands in. -/
def EO : Option (Nat × Option Nat) → Value → Part → Prop
  | none, ev, E => ev = .nilIface ∧ E = []
  | some (e, none), ev, E => ev = .iface 27 (I (e : Int)) ∧ E = []
  | some (e, some i), ev, E => ∃ g, ev = .iface 46 (Ad (bs g) 0) ∧ E = [(g, Rw 50 [I (e : Int), I (i : Int)])]

theorem head_c (v0 : Value) (b : List UInt8) (w : World) (hR : Rd [] w 1 v0 b.length (b.map B8)) :
    Calls Tryd.prog 16 (([v0] : List Value).toArray) w (fun e w' => ∃ v, e = .returned v ∧ ∃ ev E, v = .tuple #[I ((hdV b : Nat) : Int), ev] ∧ EE (hdE b) ev E ∧ St w [] [E] w') := by
  refine calls_mk Tryd.func16 rfl 75 Tryd.ntmps16 rfl ?_
  have H0 : St w [] [] w := St.refl w
  refine c_seq ?_
  refine c_reg ?_
  refine sy (v := I ((0 : Nat) : Int)) (y_assign (v := I ((0 : Nat) : Int)) rfl) ?_
  refine sy (v := .nilIface) (y_assign (v := .nilIface) rfl) ?_
  refine c_nil ?_
  refine n_then ?_
  refine c_seq ?_
  refine c_seq ?_
  refine c_reg ?_
  refine sy (v := I ((0 : Nat) : Int)) (y_move (v := I ((0 : Nat) : Int)) rfl) ?_
  refine c_nil ?_
  refine n_then ?_
  refine wp_block ?_
  refine c_loop (fun (i : Nat) f1 w2 => f1 0 = v0 ∧ f1 7 = I ((i : Nat) : Int) ∧ i ≤ 4 ∧ hdM b 4 0 = hdM b (4 - i) i ∧ St w [] [] w2) (fun i => 4 - i) 0 ⟨rfl, rfl, (by omega), rfl, H0⟩ ?_
  rintro i f1 w2 ⟨s0_3, s7_3, hi, hfm, H3⟩
  refine c_seq ?_
  refine c_reg ?_
  refine sy (v := .bool (decide (i < 4))) (n_lss (a := i) (b := 4) s7_3 rfl) ?_
  refine c_nil ?_
  refine n_then ?_
  refine c_seq ?_
  refine c_if rfl (fun hc4 => ?_) (fun hc4 => ?_)
  · skip
    refine wp_skip ?_
    refine n_then ?_
    refine c_seq ?_
    refine wp_block ?_
    refine c_seq ?_
    refine c_reg ?_
    refine sy (v := I ((i : Nat) : Int)) (y_move s7_3) ?_
    refine sy (v := I ((i : Nat) : Int)) (y_assign rfl) ?_
    refine c_nil ?_
    refine n_then ?_
    refine c_seq ?_
    refine c_seq ?_
    refine c_reg ?_
    refine sy (v := I ((i : Nat) : Int)) (y_move rfl) ?_
    refine sy (v := v0) (y_move s0_3) ?_
    refine sy (v := I ((b.length : Nat) : Int)) (y_lenR Tryd.underlying22 (hR.st H3) rfl) ?_
    refine sy (v := .bool (decide (b.length ≤ i))) (n_geq (a := i) (b := b.length) rfl rfl) ?_
    refine c_nil ?_
    refine n_then ?_
    refine c_if rfl (fun hc5 => ?_) (fun hc5 => ?_)
    · skip
      refine c_seq ?_
      refine c_reg ?_
      refine sy (v := I ((i : Nat) : Int)) (y_move rfl) ?_
      refine st (ow_call fn17 rfl (bad_c (20) (i) _) ⟨rfl, rfl, trivial⟩) ?_
      rintro _ w7 ⟨g6, rfl, H8⟩
      have H9 : St w [] [[(g6, Rw 50 ([I ((20 : Nat) : Int), I ((i : Nat) : Int)]))]] w7 := H3.app H8
      refine sy (v := I ((0 : Nat) : Int)) (y_assign (v := I ((0 : Nat) : Int)) rfl) ?_
      refine sy (v := .iface 46 (Ad (bs g6) 0)) (y_assign rfl) ?_
      refine c_nil ?_
      refine n_then ?_
      refine wp_ret ?_
      refine r_then (r_block (r_then (r_then (r_block (r_then ?_)))))
      refine e_r2 Tryd.results16 (rv_t rfl) (rv_t rfl) ?_
      have he : hdE b = some (20, i) := by
        first
          | exact hdE_o hM hRn (by omega) (by assumption)
          | exact hdE_s hM hRn (by omega)
          | exact hdE_r hM (hfr.trans (by rw [sub_succ (by omega)]; exact hdR_len (by assumption)))
          | exact hdE_r hM (hfr.trans (by rw [sub_succ (by omega)]; exact hdR_bad (by assumption) (by assumption)))
          | exact hdE_m (hfm.trans (by rw [sub_succ (by omega)]; exact hdM_len (by assumption)))
          | exact hdE_m (hfm.trans (by rw [sub_succ (by omega)]; exact hdM_bad (by assumption) (by assumption)))
      have hv0 : hdV b = 0 := by rw [hdV, if_neg (by rw [he]; simp)]
      exact ⟨_, rfl, .iface 46 (Ad (bs g6) 0), _, by rw [hv0]; rfl, by rw [he]; exact ⟨_, rfl, rfl⟩, H9⟩
    · skip
      refine wp_skip ?_
      refine n_then ?_
      refine c_seq ?_
      refine drawS (.step 0 0 (.step 0 1 (.step 0 2 (.step 0 3 (.step 0 4 (.step 0 5 (.step 0 6 .nil))))))) mixed H3 (by kernel_rfl) (by kernel_rfl) (by kernel_rfl) ?_
      intro w10 H11
      refine pt (v := v0) rfl (fun wS HS => y_move s0_3) ?_
      refine pt (v := I ((i : Nat) : Int)) rfl (fun wS HS => y_move rfl) ?_
      refine pt (v := Ad (sp (v0)) (i * 1)) rfl (fun wS HS => y_ixR (m := i) Tryd.underlying22 sz5 (hR.st HS) (by decide) rfl rfl rfl (by omega)) ?_
      refine pt (v := B8 (b.getD i 0)) rfl (fun wS HS => y_load sc5 rfl ((hR.st HS).cell _ _ (by rw [Nat.mul_one]; exact map_get B8 (l := b) (k := i) 0 (by omega)))) ?_
      refine pt (v := I ((i : Nat) : Int)) rfl (fun wS HS => y_move rfl) ?_
      refine pt (v := B8 (markL.getD i 0)) rfl (fun wS HS => y_ixStr (l := markL) (m := i) Tryd.underlying9 rfl rfl rfl (by show _ < 4; omega)) ?_
      refine pt (v := .bool (decide ((b.getD i 0) ≠ (markL.getD i 0)))) rfl (fun wS HS => y_neq8 (a := b.getD i 0) (b := markL.getD i 0) rfl rfl) ?_
      refine p_nil ?_
      refine n_then ?_
      refine c_if rfl (fun hc12 => ?_) (fun hc12 => ?_)
      · skip
        refine c_seq ?_
        refine c_reg ?_
        refine sy (v := I ((i : Nat) : Int)) (y_move rfl) ?_
        refine st (ow_call fn17 rfl (bad_c (5) (i) _) ⟨rfl, rfl, trivial⟩) ?_
        rintro _ w14 ⟨g13, rfl, H15⟩
        have H16 : St w [] [[(g13, Rw 50 ([I ((5 : Nat) : Int), I ((i : Nat) : Int)]))]] w14 := H11.app H15
        refine sy (v := I ((0 : Nat) : Int)) (y_assign (v := I ((0 : Nat) : Int)) rfl) ?_
        refine sy (v := .iface 46 (Ad (bs g13) 0)) (y_assign rfl) ?_
        refine c_nil ?_
        refine n_then ?_
        refine wp_ret ?_
        refine r_block (r_then (r_then (r_block (r_then ?_))))
        refine e_r2 Tryd.results16 (rv_t rfl) (rv_t rfl) ?_
        have he : hdE b = some (5, i) := by
          first
            | exact hdE_o hM hRn (by omega) (by assumption)
            | exact hdE_s hM hRn (by omega)
            | exact hdE_r hM (hfr.trans (by rw [sub_succ (by omega)]; exact hdR_len (by assumption)))
            | exact hdE_r hM (hfr.trans (by rw [sub_succ (by omega)]; exact hdR_bad (by assumption) (by assumption)))
            | exact hdE_m (hfm.trans (by rw [sub_succ (by omega)]; exact hdM_len (by assumption)))
            | exact hdE_m (hfm.trans (by rw [sub_succ (by omega)]; exact hdM_bad (by assumption) (by assumption)))
        have hv0 : hdV b = 0 := by rw [hdV, if_neg (by rw [he]; simp)]
        exact ⟨_, rfl, .iface 46 (Ad (bs g13) 0), _, by rw [hv0]; rfl, by rw [he]; exact ⟨_, rfl, rfl⟩, H16⟩
      · skip
        refine wp_skip ?_
        refine n_block (n_then ?_)
        refine c_reg ?_
        refine sy (v := I ((i + 1 : Nat) : Int)) (n_add (a := i) (b := 1) s7_3 rfl (by omega)) ?_
        refine sy (v := I ((i + 1 : Nat) : Int)) (y_move rfl) ?_
        refine c_nil ?_
        exact lp_next (i + 1) ⟨s0_3, rfl, (by omega), (hfm.trans ((by rw [sub_succ (by omega)]; exact hdM_go (by assumption) (by assumption)))), H11⟩ (by show _ < _; omega)
  · skip
    obtain rfl : i = 4 := by omega
    have hM : hdM b 4 0 = none := hfm
    refine wp_exit ?_
    refine x_then (x_then (x_hit (n_then ?_)))
    refine c_seq ?_
    refine c_seq ?_
    refine c_reg ?_
    refine sy (v := I ((4 : Nat) : Int)) (y_assign (v := I ((4 : Nat) : Int)) rfl) ?_
    refine c_nil ?_
    refine n_then ?_
    refine wp_block ?_
    refine c_loop (fun (j : Nat) f17 w18 => f17 0 = v0 ∧ f17 5 = I ((j : Nat) : Int) ∧ j ≤ 6 ∧ 4 ≤ j ∧ hdR b 2 4 = hdR b (6 - j) j ∧ St w [] [] w18) (fun j => 6 - j) 4 ⟨s0_3, rfl, (by omega), (by omega), rfl, H3⟩ ?_
    rintro j f17 w18 ⟨s0_19, s5_19, hj, hj4, hfr, H19⟩
    refine c_seq ?_
    refine c_seq ?_
    refine c_reg ?_
    refine sy (v := I ((j : Nat) : Int)) (y_move s5_19) ?_
    refine sy (v := .bool (decide (j < 6))) (n_lss (a := j) (b := 6) rfl rfl) ?_
    refine c_nil ?_
    refine n_then ?_
    refine c_if rfl (fun hc20 => ?_) (fun hc20 => ?_)
    · skip
      refine wp_skip ?_
      refine n_then ?_
      refine c_seq ?_
      refine wp_block ?_
      refine c_seq ?_
      refine c_seq ?_
      refine c_reg ?_
      refine sy (v := I ((j : Nat) : Int)) (y_move s5_19) ?_
      refine sy (v := v0) (y_move s0_19) ?_
      refine sy (v := I ((b.length : Nat) : Int)) (y_lenR Tryd.underlying22 (hR.st H19) rfl) ?_
      refine sy (v := .bool (decide (b.length ≤ j))) (n_geq (a := j) (b := b.length) rfl rfl) ?_
      refine c_nil ?_
      refine n_then ?_
      refine c_if rfl (fun hc21 => ?_) (fun hc21 => ?_)
      · skip
        refine c_seq ?_
        refine c_reg ?_
        refine sy (v := I ((j : Nat) : Int)) (y_move s5_19) ?_
        refine st (ow_call fn17 rfl (bad_c (20) (j) _) ⟨rfl, rfl, trivial⟩) ?_
        rintro _ w23 ⟨g22, rfl, H24⟩
        have H25 : St w [] [[(g22, Rw 50 ([I ((20 : Nat) : Int), I ((j : Nat) : Int)]))]] w23 := H19.app H24
        refine sy (v := I ((0 : Nat) : Int)) (y_assign (v := I ((0 : Nat) : Int)) rfl) ?_
        refine sy (v := .iface 46 (Ad (bs g22) 0)) (y_assign rfl) ?_
        refine c_nil ?_
        refine n_then ?_
        refine wp_ret ?_
        refine r_then (r_block (r_then (r_then (r_block (r_then ?_)))))
        refine e_r2 Tryd.results16 (rv_t rfl) (rv_t rfl) ?_
        have he : hdE b = some (20, j) := by
          first
            | exact hdE_o hM hRn (by omega) (by assumption)
            | exact hdE_s hM hRn (by omega)
            | exact hdE_r hM (hfr.trans (by rw [sub_succ (by omega)]; exact hdR_len (by assumption)))
            | exact hdE_r hM (hfr.trans (by rw [sub_succ (by omega)]; exact hdR_bad (by assumption) (by assumption)))
            | exact hdE_m (hfm.trans (by rw [sub_succ (by omega)]; exact hdM_len (by assumption)))
            | exact hdE_m (hfm.trans (by rw [sub_succ (by omega)]; exact hdM_bad (by assumption) (by assumption)))
        have hv0 : hdV b = 0 := by rw [hdV, if_neg (by rw [he]; simp)]
        exact ⟨_, rfl, .iface 46 (Ad (bs g22) 0), _, by rw [hv0]; rfl, by rw [he]; exact ⟨_, rfl, rfl⟩, H25⟩
      · skip
        refine wp_skip ?_
        refine n_then ?_
        refine c_seq ?_
        refine c_reg ?_
        refine sy (v := v0) (y_move s0_19) ?_
        refine sy (v := I ((j : Nat) : Int)) (y_move s5_19) ?_
        refine sy (v := Ad (sp (v0)) (j * 1)) (y_ixR (m := j) Tryd.underlying22 sz5 (hR.st H19) (by decide) rfl rfl rfl (by omega)) ?_
        refine sy (v := B8 (b.getD j 0)) (y_load sc5 rfl ((hR.st H19).cell _ _ (by rw [Nat.mul_one]; exact map_get B8 (l := b) (k := j) 0 (by omega)))) ?_
        refine sy (v := I (((b.getD j 0).toNat : Nat) : Int)) (y_conv_8_I Tryd.underlying5 Tryd.underlying3 rfl) ?_
        refine st (ow_call fn25 rfl (repl_c ((((b.getD j 0).toNat : Nat) : Int)) _) ⟨rfl, trivial⟩) ?_
        rintro _ w26 ⟨rfl, hB27⟩
        have H28 : St w [] [] w26 := H19.call hB27
        refine sy (v := .bool (decide (¬ (repl ((((b.getD j 0).toNat : Nat) : Int)))))) (y_notP rfl) ?_
        refine c_nil ?_
        refine n_then ?_
        refine c_if rfl (fun hc29 => ?_) (fun hc29 => ?_)
        · skip
          refine c_seq ?_
          refine c_reg ?_
          refine sy (v := I ((j : Nat) : Int)) (y_move s5_19) ?_
          refine st (ow_call fn17 rfl (bad_c (1) (j) _) ⟨rfl, rfl, trivial⟩) ?_
          rintro _ w31 ⟨g30, rfl, H32⟩
          have H33 : St w [] [[(g30, Rw 50 ([I ((1 : Nat) : Int), I ((j : Nat) : Int)]))]] w31 := H28.app H32
          refine sy (v := I ((0 : Nat) : Int)) (y_assign (v := I ((0 : Nat) : Int)) rfl) ?_
          refine sy (v := .iface 46 (Ad (bs g30) 0)) (y_assign rfl) ?_
          refine c_nil ?_
          refine n_then ?_
          refine wp_ret ?_
          refine r_block (r_then (r_then (r_block (r_then ?_))))
          refine e_r2 Tryd.results16 (rv_t rfl) (rv_t rfl) ?_
          have he : hdE b = some (1, j) := by
            first
              | exact hdE_o hM hRn (by omega) (by assumption)
              | exact hdE_s hM hRn (by omega)
              | exact hdE_r hM (hfr.trans (by rw [sub_succ (by omega)]; exact hdR_len (by assumption)))
              | exact hdE_r hM (hfr.trans (by rw [sub_succ (by omega)]; exact hdR_bad (by assumption) (by assumption)))
              | exact hdE_m (hfm.trans (by rw [sub_succ (by omega)]; exact hdM_len (by assumption)))
              | exact hdE_m (hfm.trans (by rw [sub_succ (by omega)]; exact hdM_bad (by assumption) (by assumption)))
          have hv0 : hdV b = 0 := by rw [hdV, if_neg (by rw [he]; simp)]
          exact ⟨_, rfl, .iface 46 (Ad (bs g30) 0), _, by rw [hv0]; rfl, by rw [he]; exact ⟨_, rfl, rfl⟩, H33⟩
        · skip
          refine wp_skip ?_
          refine n_block (n_then ?_)
          refine c_reg ?_
          refine sy (v := I ((j : Nat) : Int)) (y_move s5_19) ?_
          refine sy (v := I ((j + 1 : Nat) : Int)) (n_add (a := j) (b := 1) rfl rfl (by omega)) ?_
          refine sy (v := I ((j + 1 : Nat) : Int)) (y_assign rfl) ?_
          refine c_nil ?_
          exact lp_next (j + 1) ⟨s0_19, rfl, (by omega), (by omega), (hfr.trans ((by rw [sub_succ (by omega)]; exact hdR_go (by assumption) (by assumption)))), H28⟩ (by show _ < _; omega)
    · skip
      obtain rfl : j = 6 := by omega
      have hRn : hdR b 2 4 = none := hfr
      refine wp_exit ?_
      refine x_then (x_then (x_hit (n_then ?_)))
      refine c_seq ?_
      refine c_seq ?_
      refine c_reg ?_
      refine sy (v := v0) (y_move s0_19) ?_
      refine sy (v := I ((b.length : Nat) : Int)) (y_lenR Tryd.underlying22 (hR.st H19) rfl) ?_
      refine sy (v := .bool (decide (b.length < 10))) (n_lss (a := b.length) (b := 10) rfl rfl) ?_
      refine c_nil ?_
      refine n_then ?_
      refine c_if rfl (fun hc34 => ?_) (fun hc34 => ?_)
      · skip
        refine c_seq ?_
        refine c_reg ?_
        refine st (ow_call fn17 rfl (bad_c (20) (6) _) ⟨rfl, rfl, trivial⟩) ?_
        rintro _ w36 ⟨g35, rfl, H37⟩
        have H38 : St w [] [[(g35, Rw 50 ([I ((20 : Nat) : Int), I ((6 : Nat) : Int)]))]] w36 := H19.app H37
        refine sy (v := I ((0 : Nat) : Int)) (y_assign (v := I ((0 : Nat) : Int)) rfl) ?_
        refine sy (v := .iface 46 (Ad (bs g35) 0)) (y_assign rfl) ?_
        refine c_nil ?_
        refine n_then ?_
        refine wp_ret ?_
        refine r_then ?_
        refine e_r2 Tryd.results16 (rv_t rfl) (rv_t rfl) ?_
        have he : hdE b = some (20, 6) := by
          first
            | exact hdE_o hM hRn (by omega) (by assumption)
            | exact hdE_s hM hRn (by omega)
            | exact hdE_r hM (hfr.trans (by rw [sub_succ (by omega)]; exact hdR_len (by assumption)))
            | exact hdE_r hM (hfr.trans (by rw [sub_succ (by omega)]; exact hdR_bad (by assumption) (by assumption)))
            | exact hdE_m (hfm.trans (by rw [sub_succ (by omega)]; exact hdM_len (by assumption)))
            | exact hdE_m (hfm.trans (by rw [sub_succ (by omega)]; exact hdM_bad (by assumption) (by assumption)))
        have hv0 : hdV b = 0 := by rw [hdV, if_neg (by rw [he]; simp)]
        exact ⟨_, rfl, .iface 46 (Ad (bs g35) 0), _, by rw [hv0]; rfl, by rw [he]; exact ⟨_, rfl, rfl⟩, H38⟩
      · skip
        refine wp_skip ?_
        refine n_then ?_
        refine c_seq ?_
        have l6 := (b.getD 6 0).toNat_lt
        have l7 := (b.getD 7 0).toNat_lt
        have l8 := (b.getD 8 0).toNat_lt
        have l9 := (b.getD 9 0).toNat_lt
        refine drawS (.step 0 0 (.step 0 1 (.step 0 2 (.step 0 3 (.step 0 4 (.step 0 5 (.step 0 6 (.step 0 7 (.step 0 8 (.step 0 9 (.step 0 10 (.step 0 11 (.step 0 12 (.step 0 13 (.step 0 14 (.step 0 15 (.step 0 16 (.step 0 17 (.step 0 18 (.step 0 19 (.step 0 20 (.step 0 21 (.step 2 22 .nil))))))))))))))))))))))) mixed H19 (by kernel_rfl) (by kernel_rfl) (by kernel_rfl) ?_
        intro w39 H40
        refine pt (v := v0) rfl (fun wS HS => y_move s0_19) ?_
        refine pt (v := Ad (sp (v0)) (6 * 1)) rfl (fun wS HS => y_ixR (m := 6) Tryd.underlying22 sz5 (hR.st HS) (by decide) rfl rfl rfl (by omega)) ?_
        refine pt (v := B8 (b.getD 6 0)) rfl (fun wS HS => y_load sc5 rfl ((hR.st HS).cell _ _ (by rw [Nat.mul_one]; exact map_get B8 (l := b) (k := 6) 0 (by omega)))) ?_
        refine pt (v := I (((b.getD 6 0).toNat : Nat) : Int)) rfl (fun wS HS => y_conv_8_I Tryd.underlying5 Tryd.underlying3 rfl) ?_
        refine pt (v := v0) rfl (fun wS HS => y_move s0_19) ?_
        refine pt (v := Ad (sp (v0)) (7 * 1)) rfl (fun wS HS => y_ixR (m := 7) Tryd.underlying22 sz5 (hR.st HS) (by decide) rfl rfl rfl (by omega)) ?_
        refine pt (v := B8 (b.getD 7 0)) rfl (fun wS HS => y_load sc5 rfl ((hR.st HS).cell _ _ (by rw [Nat.mul_one]; exact map_get B8 (l := b) (k := 7) 0 (by omega)))) ?_
        refine pt (v := I (((b.getD 7 0).toNat : Nat) : Int)) rfl (fun wS HS => y_conv_8_I Tryd.underlying5 Tryd.underlying3 rfl) ?_
        refine pt (v := I ((((b.getD 7 0).toNat) * 2 ^ 8 : Nat) : Int)) rfl (fun wS HS => n_shl (m := 8) (a := (b.getD 7 0).toNat) rfl rfl (by omega) (by omega)) ?_
        refine pt (v := I (((b.getD 6 0).toNat + ((b.getD 7 0).toNat) * 2 ^ 8 : Nat) : Int)) rfl (fun wS HS => n_orA (a := (b.getD 6 0).toNat) (c := ((b.getD 7 0).toNat)) (k := 8) rfl rfl (by omega) (by omega) (by omega)) ?_
        refine pt (v := v0) rfl (fun wS HS => y_move s0_19) ?_
        refine pt (v := Ad (sp (v0)) (8 * 1)) rfl (fun wS HS => y_ixR (m := 8) Tryd.underlying22 sz5 (hR.st HS) (by decide) rfl rfl rfl (by omega)) ?_
        refine pt (v := B8 (b.getD 8 0)) rfl (fun wS HS => y_load sc5 rfl ((hR.st HS).cell _ _ (by rw [Nat.mul_one]; exact map_get B8 (l := b) (k := 8) 0 (by omega)))) ?_
        refine pt (v := I (((b.getD 8 0).toNat : Nat) : Int)) rfl (fun wS HS => y_conv_8_I Tryd.underlying5 Tryd.underlying3 rfl) ?_
        refine pt (v := I ((((b.getD 8 0).toNat) * 2 ^ 16 : Nat) : Int)) rfl (fun wS HS => n_shl (m := 16) (a := (b.getD 8 0).toNat) rfl rfl (by omega) (by omega)) ?_
        refine pt (v := I (((b.getD 6 0).toNat + ((b.getD 7 0).toNat) * 2 ^ 8 + ((b.getD 8 0).toNat) * 2 ^ 16 : Nat) : Int)) rfl (fun wS HS => n_orA (a := (b.getD 6 0).toNat + ((b.getD 7 0).toNat) * 2 ^ 8) (c := ((b.getD 8 0).toNat)) (k := 16) rfl rfl (by omega) (by omega) (by omega)) ?_
        refine pt (v := v0) rfl (fun wS HS => y_move s0_19) ?_
        refine pt (v := Ad (sp (v0)) (9 * 1)) rfl (fun wS HS => y_ixR (m := 9) Tryd.underlying22 sz5 (hR.st HS) (by decide) rfl rfl rfl (by omega)) ?_
        refine pt (v := B8 (b.getD 9 0)) rfl (fun wS HS => y_load sc5 rfl ((hR.st HS).cell _ _ (by rw [Nat.mul_one]; exact map_get B8 (l := b) (k := 9) 0 (by omega)))) ?_
        refine pt (v := I (((b.getD 9 0).toNat : Nat) : Int)) rfl (fun wS HS => y_conv_8_I Tryd.underlying5 Tryd.underlying3 rfl) ?_
        refine pt (v := I ((((b.getD 9 0).toNat) * 2 ^ 24 : Nat) : Int)) rfl (fun wS HS => n_shl (m := 24) (a := (b.getD 9 0).toNat) rfl rfl (by omega) (by omega)) ?_
        refine pt (v := I ((hdN b : Nat) : Int)) rfl (fun wS HS => n_orB (m := hdN b) (by unfold hdN; omega) (a := (b.getD 6 0).toNat + ((b.getD 7 0).toNat) * 2 ^ 8 + ((b.getD 8 0).toNat) * 2 ^ 16) (c := ((b.getD 9 0).toNat)) (k := 24) rfl rfl (by omega) (by omega) (by omega)) ?_
        refine tly (v := I ((hdN b : Nat) : Int)) rfl (y_assign rfl) ?_
        refine p_nil ?_
        refine n_then ?_
        refine c_seq ?_
        refine c_seq ?_
        refine c_reg ?_
        refine sy (v := I ((hdN b : Nat) : Int)) (y_move rfl) ?_
        refine sy (v := .bool (decide (2097152 < (hdN b)))) (n_gtr (a := hdN b) (b := 2097152) rfl rfl) ?_
        refine c_nil ?_
        refine n_then ?_
        refine c_if rfl (fun hc41 => ?_) (fun hc41 => ?_)
        · skip
          refine c_seq ?_
          refine c_reg ?_
          refine st (ow_call fn17 rfl (bad_c (22) (6) _) ⟨rfl, rfl, trivial⟩) ?_
          rintro _ w43 ⟨g42, rfl, H44⟩
          have H45 : St w [] [[(g42, Rw 50 ([I ((22 : Nat) : Int), I ((6 : Nat) : Int)]))]] w43 := H40.app H44
          refine sy (v := I ((0 : Nat) : Int)) (y_assign (v := I ((0 : Nat) : Int)) rfl) ?_
          refine sy (v := .iface 46 (Ad (bs g42) 0)) (y_assign rfl) ?_
          refine c_nil ?_
          refine n_then ?_
          refine wp_ret ?_
          refine r_then ?_
          refine e_r2 Tryd.results16 (rv_t rfl) (rv_t rfl) ?_
          have he : hdE b = some (22, 6) := by
            first
              | exact hdE_o hM hRn (by omega) (by assumption)
              | exact hdE_s hM hRn (by omega)
              | exact hdE_r hM (hfr.trans (by rw [sub_succ (by omega)]; exact hdR_len (by assumption)))
              | exact hdE_r hM (hfr.trans (by rw [sub_succ (by omega)]; exact hdR_bad (by assumption) (by assumption)))
              | exact hdE_m (hfm.trans (by rw [sub_succ (by omega)]; exact hdM_len (by assumption)))
              | exact hdE_m (hfm.trans (by rw [sub_succ (by omega)]; exact hdM_bad (by assumption) (by assumption)))
          have hv0 : hdV b = 0 := by rw [hdV, if_neg (by rw [he]; simp)]
          exact ⟨_, rfl, .iface 46 (Ad (bs g42) 0), _, by rw [hv0]; rfl, by rw [he]; exact ⟨_, rfl, rfl⟩, H45⟩
        · skip
          refine wp_skip ?_
          refine n_then ?_
          refine c_seq ?_
          refine c_reg ?_
          refine sy (v := I ((hdN b : Nat) : Int)) (y_move rfl) ?_
          refine sy (v := I ((hdN b : Nat) : Int)) (y_assign rfl) ?_
          refine sy (v := .nilIface) (y_assign (v := .nilIface) rfl) ?_
          refine c_nil ?_
          refine n_then ?_
          refine wp_ret ?_
          refine e_r2 Tryd.results16 (rv_t rfl) (rv_t rfl) ?_
          have he : hdE b = none := hdE_k hM hRn (by omega) (by assumption)
          have hv0 : hdV b = hdN b := by rw [hdV, if_pos he]
          exact ⟨_, rfl, .nilIface, [], by rw [hv0]; rfl, by rw [he]; exact ⟨rfl, rfl⟩, H40.none.nilp⟩

theorem head_ok (v0 : Value) (b : List UInt8) (w : World) (hR : Rd [] w 1 v0 b.length (b.map B8)) (hn : hdE b = none) :
    Calls Tryd.prog 16 (([v0] : List Value).toArray) w (fun e w' => ∃ v, e = .returned v ∧ v = .tuple #[I ((hdN b : Nat) : Int), .nilIface] ∧ Below w.heap.size w w') :=
  (head_c v0 b w hR).mono fun e w' ⟨v, he, ev, E, hv, hE, H⟩ => by
    rw [hn] at hE
    obtain ⟨rfl, rfl⟩ := hE
    exact ⟨v, he, by rw [hv, hdV, if_pos hn], H.below⟩
theorem head_err (v0 : Value) (b : List UInt8) (w : World) (hR : Rd [] w 1 v0 b.length (b.map B8)) {q i : Nat} (hn : hdE b = some (q, i)) :
    Calls Tryd.prog 16 (([v0] : List Value).toArray) w (fun e w' => ∃ v, e = .returned v ∧ ∃ g, v = .tuple #[I ((0 : Nat) : Int), .iface 46 (Ad (bs g) 0)] ∧ St w [] [[(g, Rw 50 [I (q : Int), I (i : Int)])]] w') :=
  (head_c v0 b w hR).mono fun e w' ⟨v, he, ev, E, hv, hE, H⟩ => by
    rw [hn] at hE
    obtain ⟨g, rfl, rfl⟩ := hE
    exact ⟨v, he, g, by rw [hv, hdV, if_neg (by rw [hn]; simp)], H⟩

set_option maxHeartbeats 1000000 in
set_option maxRecDepth 20000 in
theorem open_c (v0 v1 : Value) (lk b : List UInt8) (w : World) (hK : Rd [] w 1 v0 lk.length (lk.map B8)) (hR : Rd [] w 1 v1 b.length (b.map B8)) (hlk : lk.length ≤ 140737488355328) (hb : b.length ≤ 281474976710656) :
    Calls Tryd.prog 7 (([v0, v1] : List Value).toArray) w (fun e w' => ∃ v, e = .returned v ∧ ∃ ev E bv EB, (v = .tuple #[.agg ([I ((opF lk b : Nat) : Int), I ((opT lk b : Nat) : Int), bv] : List Value).toArray, ev] ∧ (¬ opE lk b = none → bv = .slice none 0 0)) ∧ EO (opE lk b) ev E ∧ OS 5 1 bv (opB lk b).length ((opB lk b).map B8) EB ∧ St w [] [E, EB] w') := by
  refine calls_mk Tryd.func7 rfl 75 Tryd.ntmps7 rfl ?_
  have H0 : St w [] [] w := St.refl w
  refine c_seq ?_
  refine c_reg ?_
  refine st (ow_alloc (l := [I ((0 : Nat) : Int), I ((0 : Nat) : Int), .slice none 0 0]) H0 zr26 rfl) ?_
  rintro _ w2 ⟨g1, rfl, H3⟩
  refine sy (v := .nilIface) (y_assign (v := .nilIface) rfl) ?_
  refine c_nil ?_
  refine n_then ?_
  refine c_seq ?_
  refine c_seq ?_
  refine c_reg ?_
  refine sy (v := v0) (y_move rfl) ?_
  refine sy (v := I ((lk.length : Nat) : Int)) (y_lenR Tryd.underlying22 (hK.st H3) rfl) ?_
  refine sy (v := .bool (decide (lk.length ≠ 32))) (n_neq (a := lk.length) (b := 32) rfl rfl) ?_
  refine c_nil ?_
  refine n_then ?_
  refine c_if rfl (fun hc4 => ?_) (fun hc4 => ?_)
  · skip
    refine c_seq ?_
    refine c_reg ?_
    refine sy (v := .agg ([I ((0 : Nat) : Int), I ((0 : Nat) : Int), .slice none 0 0]).toArray) (y_build (pv := []) (us := [I ((0 : Nat) : Int), I ((0 : Nat) : Int), .slice none 0 0]) trivial (by kernel_rfl)) ?_
    refine sy (v := .iface 27 (I ((1 : Nat) : Int))) (y_mkI (v := I ((1 : Nat) : Int)) Tryd.underlying27 rfl rfl) ?_
    refine s0 (ow_storeW (us := [I ((0 : Nat) : Int), I ((0 : Nat) : Int), .slice none 0 0]) H3 sz26 rfl rfl rfl (by simp [Value.oneCell']) (by simp [*])) ?_
    rintro _ w5 H6'
    have H6 : St w [] [[(g1, Rw 26 ([I ((0 : Nat) : Int), I ((0 : Nat) : Int), .slice none 0 0]))]] w5 := H6'
    refine sy (v := .iface 27 (I ((1 : Nat) : Int))) (y_assign rfl) ?_
    refine c_nil ?_
    refine n_then ?_
    refine wp_ret ?_
    refine r_then ?_
    refine e_r2 Tryd.results7 (rv_b H6 (i := 0) rfl ag26 sz26 rfl rfl) (rv_t rfl) ?_
    have he : opE lk b = some (1, none) := opE_k (by assumption)
    have hn : ¬ opE lk b = none := by rw [he]; simp
    have hv0 : opF lk b = 0 := by rw [opF, if_neg hn]
    have hv1 : opT lk b = 0 := by rw [opT, if_neg hn]
    exact ⟨_, rfl, .iface 27 (I ((1 : Nat) : Int)), [], .slice none 0 0, [], ⟨by rw [hv0, hv1]; rfl, fun _ => rfl⟩, by rw [he]; exact ⟨rfl, rfl⟩, by rw [opB, if_neg hn]; exact OS.nil 5 1, H6.none.nilp.nilp⟩
  · skip
    refine wp_skip ?_
    refine n_then ?_
    refine c_seq ?_
    refine c_reg ?_
    refine sy (v := v1) (y_move rfl) ?_
    by_cases hp7 : hdE b = none
    · skip
      have hnl10 := hdN_le hp7
      refine st (ow_call fn16 rfl (head_ok (v1) (b) _ ((hR.st H3)).nil hp7) ⟨rfl, trivial⟩) ?_
      rintro _ w8 ⟨rfl, hB9⟩
      have H11 : St w [] [[(g1, Rw 26 ([I ((0 : Nat) : Int), I ((0 : Nat) : Int), .slice none 0 0]))]] w8 := H3.call hB9
      refine sy (v := .tuple #[I ((hdN b : Nat) : Int), .nilIface]) (y_move rfl) ?_
      refine sy (v := I ((hdN b : Nat) : Int)) (y_extract (i := 0) rfl rfl) ?_
      refine sy (v := .nilIface) (y_extract (i := 1) rfl rfl) ?_
      refine sy (v := I ((hdN b : Nat) : Int)) (y_assign rfl) ?_
      refine sy (v := .nilIface) (y_assign rfl) ?_
      refine c_nil ?_
      refine n_then ?_
      refine c_seq ?_
      refine c_seq ?_
      refine c_reg ?_
      refine sy (v := .nilIface) (y_move rfl) ?_
      refine sy (v := .bool (false)) (y_neqNil0 Tryd.underlying31 rfl) ?_
      refine c_nil ?_
      refine n_then ?_
      refine c_f rfl rfl ?_
      refine wp_skip ?_
      refine n_then ?_
      refine c_seq ?_
      refine wp_block ?_
      refine c_seq ?_
      refine c_reg ?_
      refine sy (v := v1) (y_move rfl) ?_
      refine sy (v := I ((b.length : Nat) : Int)) (y_lenR Tryd.underlying22 (hR.st H11) rfl) ?_
      refine sy (v := I ((hdN b : Nat) : Int)) (y_move rfl) ?_
      refine sy (v := I (((hdN b) + 42 : Nat) : Int)) (n_add (a := hdN b) (b := 42) rfl rfl (by omega)) ?_
      refine sy (v := .bool (decide (b.length < ((hdN b) + 42)))) (n_lss (a := b.length) (b := (hdN b) + 42) rfl rfl) ?_
      refine sy (v := .bool (decide (b.length < ((hdN b) + 42)))) (y_assign rfl) ?_
      refine c_nil ?_
      refine n_then ?_
      refine c_if rfl (fun hc12 => ?_) (fun hc12 => ?_)
      · skip
        refine c_seq ?_
        refine c_reg ?_
        refine sy (v := .agg ([I ((0 : Nat) : Int), I ((0 : Nat) : Int), .slice none 0 0]).toArray) (y_build (pv := []) (us := [I ((0 : Nat) : Int), I ((0 : Nat) : Int), .slice none 0 0]) trivial (by kernel_rfl)) ?_
        refine st (ow_call fn17 rfl (bad_c (20) (10) _) ⟨rfl, rfl, trivial⟩) ?_
        rintro _ w14 ⟨g13, rfl, H15⟩
        have H16 : St w [] [[(g13, Rw 50 ([I ((20 : Nat) : Int), I ((10 : Nat) : Int)]))], [(g1, Rw 26 ([I ((0 : Nat) : Int), I ((0 : Nat) : Int), .slice none 0 0]))]] w14 := H11.app H15
        have H17 : St w [] [[(g1, Rw 26 ([I ((0 : Nat) : Int), I ((0 : Nat) : Int), .slice none 0 0]))], [(g13, Rw 50 ([I ((20 : Nat) : Int), I ((10 : Nat) : Int)]))]] w14 := H16.foc 1 rfl rfl
        refine s0 (ow_storeW (us := [I ((0 : Nat) : Int), I ((0 : Nat) : Int), .slice none 0 0]) H17 sz26 rfl rfl rfl (by simp [Value.oneCell']) (by simp [*])) ?_
        rintro _ w18 H19'
        have H19 : St w [] [[(g1, Rw 26 ([I ((0 : Nat) : Int), I ((0 : Nat) : Int), .slice none 0 0]))], [(g13, Rw 50 ([I ((20 : Nat) : Int), I ((10 : Nat) : Int)]))]] w18 := H19'
        refine sy (v := .iface 46 (Ad (bs g13) 0)) (y_assign rfl) ?_
        refine c_nil ?_
        refine n_then ?_
        refine wp_ret ?_
        refine r_block (r_then ?_)
        refine e_r2 Tryd.results7 (rv_b H19 (i := 0) rfl ag26 sz26 rfl rfl) (rv_t rfl) ?_
        have he : opE lk b = some (20, some (10)) := opE_s (by omega) hp7 (by omega)
        have H20 : St w [] [[(g13, Rw 50 ([I ((20 : Nat) : Int), I ((10 : Nat) : Int)]))], [(g1, Rw 26 ([I ((0 : Nat) : Int), I ((0 : Nat) : Int), .slice none 0 0]))]] w18 := H19.foc 1 rfl rfl
        have H21 : St w [] [[(g13, Rw 50 ([I ((20 : Nat) : Int), I ((10 : Nat) : Int)]))]] w18 := H20.take 1 rfl
        have hn : ¬ opE lk b = none := by rw [he]; simp
        have hv0 : opF lk b = 0 := by rw [opF, if_neg hn]
        have hv1 : opT lk b = 0 := by rw [opT, if_neg hn]
        exact ⟨_, rfl, .iface 46 (Ad (bs g13) 0), _, .slice none 0 0, [], ⟨by rw [hv0, hv1]; rfl, fun _ => rfl⟩, by rw [he]; exact ⟨_, rfl, rfl⟩, by rw [opB, if_neg hn]; exact OS.nil 5 1, (H21.nilp).foc 1 rfl rfl⟩
      · skip
        refine c_seq ?_
        refine c_reg ?_
        refine sy (v := v1) (y_move rfl) ?_
        refine sy (v := I ((b.length : Nat) : Int)) (y_lenR Tryd.underlying22 (hR.st H11) rfl) ?_
        refine sy (v := I ((hdN b : Nat) : Int)) (y_move rfl) ?_
        refine sy (v := I (((hdN b) + 42 : Nat) : Int)) (n_add (a := hdN b) (b := 42) rfl rfl (by omega)) ?_
        refine sy (v := .bool (decide (((hdN b) + 42) < b.length))) (n_gtr (a := b.length) (b := (hdN b) + 42) rfl rfl) ?_
        refine sy (v := .bool (decide (((hdN b) + 42) < b.length))) (y_assign rfl) ?_
        refine c_nil ?_
        refine n_then ?_
        refine c_if rfl (fun hc22 => ?_) (fun hc22 => ?_)
        · skip
          refine c_seq ?_
          refine c_reg ?_
          refine sy (v := .agg ([I ((0 : Nat) : Int), I ((0 : Nat) : Int), .slice none 0 0]).toArray) (y_build (pv := []) (us := [I ((0 : Nat) : Int), I ((0 : Nat) : Int), .slice none 0 0]) trivial (by kernel_rfl)) ?_
          refine sy (v := I ((hdN b : Nat) : Int)) (y_move rfl) ?_
          refine sy (v := I (((hdN b) + 42 : Nat) : Int)) (n_add (a := hdN b) (b := 42) rfl rfl (by omega)) ?_
          refine st (ow_call fn17 rfl (bad_c (23) ((hdN b) + 42) _) ⟨rfl, rfl, trivial⟩) ?_
          rintro _ w24 ⟨g23, rfl, H25⟩
          have H26 : St w [] [[(g23, Rw 50 ([I ((23 : Nat) : Int), I (((hdN b) + 42 : Nat) : Int)]))], [(g1, Rw 26 ([I ((0 : Nat) : Int), I ((0 : Nat) : Int), .slice none 0 0]))]] w24 := H11.app H25
          have H27 : St w [] [[(g1, Rw 26 ([I ((0 : Nat) : Int), I ((0 : Nat) : Int), .slice none 0 0]))], [(g23, Rw 50 ([I ((23 : Nat) : Int), I (((hdN b) + 42 : Nat) : Int)]))]] w24 := H26.foc 1 rfl rfl
          refine s0 (ow_storeW (us := [I ((0 : Nat) : Int), I ((0 : Nat) : Int), .slice none 0 0]) H27 sz26 rfl rfl rfl (by simp [Value.oneCell']) (by simp [*])) ?_
          rintro _ w28 H29'
          have H29 : St w [] [[(g1, Rw 26 ([I ((0 : Nat) : Int), I ((0 : Nat) : Int), .slice none 0 0]))], [(g23, Rw 50 ([I ((23 : Nat) : Int), I (((hdN b) + 42 : Nat) : Int)]))]] w28 := H29'
          refine sy (v := .iface 46 (Ad (bs g23) 0)) (y_assign rfl) ?_
          refine c_nil ?_
          refine n_then ?_
          refine wp_ret ?_
          refine r_block (r_then ?_)
          refine e_r2 Tryd.results7 (rv_b H29 (i := 0) rfl ag26 sz26 rfl rfl) (rv_t rfl) ?_
          have he : opE lk b = some (23, some ((hdN b) + 42)) := opE_r (by omega) hp7 (by omega) (by omega)
          have H30 : St w [] [[(g23, Rw 50 ([I ((23 : Nat) : Int), I (((hdN b) + 42 : Nat) : Int)]))], [(g1, Rw 26 ([I ((0 : Nat) : Int), I ((0 : Nat) : Int), .slice none 0 0]))]] w28 := H29.foc 1 rfl rfl
          have H31 : St w [] [[(g23, Rw 50 ([I ((23 : Nat) : Int), I (((hdN b) + 42 : Nat) : Int)]))]] w28 := H30.take 1 rfl
          have hn : ¬ opE lk b = none := by rw [he]; simp
          have hv0 : opF lk b = 0 := by rw [opF, if_neg hn]
          have hv1 : opT lk b = 0 := by rw [opT, if_neg hn]
          exact ⟨_, rfl, .iface 46 (Ad (bs g23) 0), _, .slice none 0 0, [], ⟨by rw [hv0, hv1]; rfl, fun _ => rfl⟩, by rw [he]; exact ⟨_, rfl, rfl⟩, by rw [opB, if_neg hn]; exact OS.nil 5 1, (H31.nilp).foc 1 rfl rfl⟩
        · skip
          refine wp_skip ?_
          refine n_block (n_then ?_)
          refine c_seq ?_
          refine c_reg ?_
          refine st (ow_alloc (l := (List.replicate 32 0).map B8) H11 zr40 (by simp [Value.cells])) ?_
          rintro _ w33 ⟨g32, rfl, H34⟩
          refine c_nil ?_
          refine n_then ?_
          refine c_seq ?_
          refine drawSub (.step 0 0 (.step 0 1 (.step 0 2 (.step 0 3 (.step 0 4 (.step 1 5 .nil)))))) mixed H34 (fun _ h => h.drop) (by kernel_rfl) (by kernel_rfl) (by kernel_rfl) ?_
          intro w35 H36
          refine pt (v := .slice (some (bs g32)) 32 32) rfl (fun wS HS => y_slA (k1 := .i64) (k2 := .i64) (l := 0) (h := 32) Tryd.underlying40 sz5 rfl (.inl ⟨rfl, rfl⟩) (.inl ⟨rfl, rfl⟩) (by omega) (by omega)) ?_
          refine pt (v := v1) rfl (fun wS HS => y_move rfl) ?_
          refine pt (v := I ((hdN b : Nat) : Int)) rfl (fun wS HS => y_move rfl) ?_
          refine pt (v := I ((10 + (hdN b) : Nat) : Int)) rfl (fun wS HS => n_add (a := 10) (b := hdN b) rfl rfl (by omega)) ?_
          have hL37 : (b.drop (10 + (hdN b))).length = b.length - (10 + (hdN b)) := by rw [List.length_drop]
          refine pt (v := slv 1 (10 + (hdN b)) (b.length) (v1)) rfl (fun wS HS => y_slR (k1 := .i64) (k2 := .i64) (l := 10 + (hdN b)) (h := b.length) Tryd.underlying22 sz5 (hR.st HS) rfl (.inr ⟨_, rfl, rfl⟩) (.inl ⟨rfl, rfl⟩) (by omega) (by omega)) ?_
          refine pl rfl (ow_copy (k := (b.drop (10 + (hdN b))).length) (o := 0) (l := (List.replicate 32 0).map B8) Tryd.underlying22 sz5 H36 rfl rfl (rdb_suf (hR.st H36) (by omega)) (map_one (F := B8) (fun _ => rfl) _) (by omega) (by simp only [List.length_map, List.length_replicate]; omega)) ?_
          rintro _ w38 ⟨rfl, H39'⟩
          have hr40 : (lay (List.replicate 32 0) 0 (b.drop (10 + (hdN b)))).length = 32 := by rw [lay_length (by simp only [List.length_replicate, List.length_take]; omega)]; simp only [List.length_replicate]
          have H39 : St w [] [[(g32, Rw 40 ((lay (List.replicate 32 0) 0 (b.drop (10 + (hdN b)))).map B8))], [(g1, Rw 26 ([I ((0 : Nat) : Int), I ((0 : Nat) : Int), .slice none 0 0]))]] w38 := H39'.eq1 (map_layA _ _ _)
          have H41 : St w [] [[(g1, Rw 26 ([I ((0 : Nat) : Int), I ((0 : Nat) : Int), .slice none 0 0]))], [(g32, Rw 40 ((lay (List.replicate 32 0) 0 (b.drop (10 + (hdN b)))).map B8))]] w38 := H39.foc 1 rfl rfl
          have H42 : St w [] [[(g1, Rw 26 ([I ((0 : Nat) : Int), I ((0 : Nat) : Int), .slice none 0 0]))]] w38 := H41.take 1 rfl
          refine ⟨H42, ?_⟩
          refine p_nil ?_
          refine n_then ?_
          refine c_seq ?_
          refine c_seq ?_
          have hdl : (b.drop (10 + hdN b)).length = 32 := by rw [List.length_drop]; omega
          rw [lay_full hdl] at H39
          have H43 : St w [] [[(g32, Rw 40 ((b.drop (10 + hdN b)).map B8))], [(g1, Rw 26 ([I ((0 : Nat) : Int), I ((0 : Nat) : Int), .slice none 0 0]))]] w38 := H39
          refine drawS (.step 0 0 (.step 0 1 (.step 0 2 (.step 0 3 (.step 0 4 (.step 0 5 (.step 1 6 (.step 0 7 .nil)))))))) mixed H43 (by kernel_rfl) (by kernel_rfl) (by kernel_rfl) ?_
          intro w44 H45
          refine pt (v := .agg ((b.drop (10 + hdN b)).map B8).toArray) rfl (fun wS HS => y_loadA (us := (b.drop (10 + hdN b)).map B8) ag40 sz40 ((List.length_map _).trans hdl) rfl (fun j u hu => (HS.cell 0 rfl (by rw [Nat.zero_add]; exact hu)))) ?_
          refine pt (v := v0) rfl (fun wS HS => y_move rfl) ?_
          refine pt (v := v1) rfl (fun wS HS => y_move rfl) ?_
          refine pt (v := I ((hdN b : Nat) : Int)) rfl (fun wS HS => y_move rfl) ?_
          refine pt (v := I ((10 + (hdN b) : Nat) : Int)) rfl (fun wS HS => n_add (a := 10) (b := hdN b) rfl rfl (by omega)) ?_
          have hL46 : (b.take (10 + (hdN b))).length = (10 + (hdN b)) := by rw [List.length_take]; omega
          refine pt (v := slv 1 (0) (10 + (hdN b)) (v1)) rfl (fun wS HS => y_slR (k1 := .i64) (k2 := .i64) (l := 0) (h := 10 + (hdN b)) Tryd.underlying22 sz5 (hR.st HS) rfl (.inl ⟨rfl, rfl⟩) (.inr ⟨_, rfl, rfl⟩) (by omega) (by omega)) ?_
          refine pl rfl (ow_call fn13 rfl (mac_c (v0) (slv 1 (0) (10 + (hdN b)) (v1)) (lk) (b.take (10 + (hdN b))) _ ((hK.st H45)).nil ((rdb_pre (hR.st H45) (by omega))).nil (by first | omega | (simp only [List.length_append, List.length_cons, List.length_nil, List.length_take, List.length_drop, hmac_length, sha_length, List.length_replicate]; omega)) (by first | omega | (simp only [List.length_append, List.length_cons, List.length_nil, List.length_take, List.length_drop, hmac_length, sha_length, List.length_replicate]; omega))) ⟨rfl, rfl, trivial⟩) ?_
          rintro _ w47 ⟨rfl, hB48⟩
          have H49 : St w [] [[(g32, Rw 40 ((b.drop (10 + hdN b)).map B8))], [(g1, Rw 26 ([I ((0 : Nat) : Int), I ((0 : Nat) : Int), .slice none 0 0]))]] w47 := H45.call hB48
          refine ⟨H49, ?_⟩
          refine pt (v := .bool (decide ((b.drop (10 + hdN b)) ≠ (hmac (lk) (b.take (10 + (hdN b))))))) rfl (fun wS HS => y_neqArr (l1 := b.drop (10 + hdN b)) (l2 := hmac (lk) (b.take (10 + (hdN b)))) Tryd.underlying40 sz5 sc5 Tryd.underlying5 gt40 hdl (hmac_length _ _) rfl rfl) ?_
          refine p_nil ?_
          refine n_then ?_
          refine c_if rfl (fun hc50 => ?_) (fun hc50 => ?_)
          · skip
            refine c_seq ?_
            refine c_reg ?_
            refine sy (v := .agg ([I ((0 : Nat) : Int), I ((0 : Nat) : Int), .slice none 0 0]).toArray) (y_build (pv := []) (us := [I ((0 : Nat) : Int), I ((0 : Nat) : Int), .slice none 0 0]) trivial (by kernel_rfl)) ?_
            refine sy (v := I ((hdN b : Nat) : Int)) (y_move rfl) ?_
            refine sy (v := I ((10 + (hdN b) : Nat) : Int)) (n_add (a := 10) (b := hdN b) rfl rfl (by omega)) ?_
            refine st (ow_call fn17 rfl (bad_c (30) (10 + (hdN b)) _) ⟨rfl, rfl, trivial⟩) ?_
            rintro _ w52 ⟨g51, rfl, H53⟩
            have H54 : St w [] [[(g51, Rw 50 ([I ((30 : Nat) : Int), I ((10 + (hdN b) : Nat) : Int)]))], [(g32, Rw 40 ((b.drop (10 + hdN b)).map B8))], [(g1, Rw 26 ([I ((0 : Nat) : Int), I ((0 : Nat) : Int), .slice none 0 0]))]] w52 := H49.app H53
            have H55 : St w [] [[(g1, Rw 26 ([I ((0 : Nat) : Int), I ((0 : Nat) : Int), .slice none 0 0]))], [(g51, Rw 50 ([I ((30 : Nat) : Int), I ((10 + (hdN b) : Nat) : Int)]))], [(g32, Rw 40 ((b.drop (10 + hdN b)).map B8))]] w52 := H54.foc 2 rfl rfl
            refine s0 (ow_storeW (us := [I ((0 : Nat) : Int), I ((0 : Nat) : Int), .slice none 0 0]) H55 sz26 rfl rfl rfl (by simp [Value.oneCell']) (by simp [*])) ?_
            rintro _ w56 H57'
            have H57 : St w [] [[(g1, Rw 26 ([I ((0 : Nat) : Int), I ((0 : Nat) : Int), .slice none 0 0]))], [(g51, Rw 50 ([I ((30 : Nat) : Int), I ((10 + (hdN b) : Nat) : Int)]))], [(g32, Rw 40 ((b.drop (10 + hdN b)).map B8))]] w56 := H57'
            refine sy (v := .iface 46 (Ad (bs g51) 0)) (y_assign rfl) ?_
            refine c_nil ?_
            refine n_then ?_
            refine wp_ret ?_
            refine r_then ?_
            refine e_r2 Tryd.results7 (rv_b H57 (i := 0) rfl ag26 sz26 rfl rfl) (rv_t rfl) ?_
            have he : opE lk b = some (30, some (10 + (hdN b))) := opE_m (by omega) hp7 (by omega) (by omega) (by assumption)
            have H58 : St w [] [[(g51, Rw 50 ([I ((30 : Nat) : Int), I ((10 + (hdN b) : Nat) : Int)]))], [(g1, Rw 26 ([I ((0 : Nat) : Int), I ((0 : Nat) : Int), .slice none 0 0]))], [(g32, Rw 40 ((b.drop (10 + hdN b)).map B8))]] w56 := H57.foc 1 rfl rfl
            have H59 : St w [] [[(g51, Rw 50 ([I ((30 : Nat) : Int), I ((10 + (hdN b) : Nat) : Int)]))]] w56 := H58.take 1 rfl
            have hn : ¬ opE lk b = none := by rw [he]; simp
            have hv0 : opF lk b = 0 := by rw [opF, if_neg hn]
            have hv1 : opT lk b = 0 := by rw [opT, if_neg hn]
            exact ⟨_, rfl, .iface 46 (Ad (bs g51) 0), _, .slice none 0 0, [], ⟨by rw [hv0, hv1]; rfl, fun _ => rfl⟩, by rw [he]; exact ⟨_, rfl, rfl⟩, by rw [opB, if_neg hn]; exact OS.nil 5 1, (H59.nilp).foc 1 rfl rfl⟩
          · skip
            refine wp_skip ?_
            refine n_then ?_
            refine c_seq ?_
            refine c_reg ?_
            refine sy (v := v1) (y_move rfl) ?_
            refine sy (v := I ((hdN b : Nat) : Int)) (y_move rfl) ?_
            refine sy (v := I ((10 + (hdN b) : Nat) : Int)) (n_add (a := 10) (b := hdN b) rfl rfl (by omega)) ?_
            have hL60 : ((b.drop 10).take ((10 + (hdN b)) - 10)).length = (10 + (hdN b)) - 10 := by rw [List.length_take, List.length_drop]; omega
            refine sy (v := slv 1 (10) (10 + (hdN b)) (v1)) (y_slR (k1 := .i64) (k2 := .i64) (l := 10) (h := 10 + (hdN b)) Tryd.underlying22 sz5 (hR.st H49) rfl (.inr ⟨_, rfl, rfl⟩) (.inr ⟨_, rfl, rfl⟩) (by omega) (by omega)) ?_
            refine st (ow_append Tryd.underlying22 sz5 zr5 bt5 rfl (OS.nil 5 1) (H49.nilp) rfl rfl ((rdb_mid (hR.st H49) (by omega) (by omega)).src Tryd.underlying22 (map_one (F := B8) (fun _ => rfl) _)) (by first | omega | (simp only [List.length_append, List.length_cons, List.length_nil, List.length_take, List.length_drop, hmac_length, sha_length, List.length_replicate]; omega)) (by first | omega | (simp only [List.length_append, List.length_cons, List.length_nil, List.length_take, List.length_drop, hmac_length, sha_length, List.length_replicate]; omega))) ?_
            rintro v62 w63 ⟨E61, ho65', H64⟩
            have ho65 : OS 5 1 v62 ((b.drop 10).take ((10 + (hdN b)) - 10)).length (((b.drop 10).take ((10 + (hdN b)) - 10)).map B8) E61 := by first | (have h := ho65'; rw [Nat.zero_add, List.nil_append] at h; exact h) | simpa using ho65'
            refine sy (v := v62) (y_assign rfl) ?_
            refine c_nil ?_
            refine n_then ?_
            refine c_seq ?_
            refine drawS (.step 0 0 (.step 0 1 (.step 0 2 (.step 0 3 (.step 0 4 (.step 0 5 (.step 0 6 (.step 0 7 (.step 0 8 (.step 0 9 (.step 2 10 (.step 2 11 .nil)))))))))))) mixed H64 (by kernel_rfl) (by kernel_rfl) (by kernel_rfl) ?_
            intro w66 H67
            refine pt (v := v1) rfl (fun wS HS => y_move rfl) ?_
            refine pt (v := Ad (sp (v1)) (4 * 1)) rfl (fun wS HS => y_ixR (m := 4) Tryd.underlying22 sz5 (hR.st HS) (by decide) rfl rfl rfl (by omega)) ?_
            refine pt (v := B8 (b.getD 4 0)) rfl (fun wS HS => y_load sc5 rfl ((hR.st HS).cell _ _ (by rw [Nat.mul_one]; exact map_get B8 (l := b) (k := 4) 0 (by omega)))) ?_
            refine pt (v := I (((b.getD 4 0).toNat : Nat) : Int)) rfl (fun wS HS => y_conv_8_I Tryd.underlying5 Tryd.underlying3 rfl) ?_
            refine pt (v := v1) rfl (fun wS HS => y_move rfl) ?_
            refine pt (v := Ad (sp (v1)) (5 * 1)) rfl (fun wS HS => y_ixR (m := 5) Tryd.underlying22 sz5 (hR.st HS) (by decide) rfl rfl rfl (by omega)) ?_
            refine pt (v := B8 (b.getD 5 0)) rfl (fun wS HS => y_load sc5 rfl ((hR.st HS).cell _ _ (by rw [Nat.mul_one]; exact map_get B8 (l := b) (k := 5) 0 (by omega)))) ?_
            refine pt (v := I (((b.getD 5 0).toNat : Nat) : Int)) rfl (fun wS HS => y_conv_8_I Tryd.underlying5 Tryd.underlying3 rfl) ?_
            refine pt (v := v62) rfl (fun wS HS => y_move rfl) ?_
            obtain ⟨pa68, pc69, rfl, -⟩ := (ho65.rd H67 0 rfl).shape
            refine pt (v := .agg ([I (((b.getD 4 0).toNat : Nat) : Int), I (((b.getD 5 0).toNat : Nat) : Int), (.slice pa68 (((b.drop 10).take ((10 + (hdN b)) - 10)).length) pc69)]).toArray) rfl (fun wS HS => y_build (pv := [(0, I (((b.getD 4 0).toNat : Nat) : Int)), (1, I (((b.getD 5 0).toNat : Nat) : Int)), (2, (.slice pa68 (((b.drop 10).take ((10 + (hdN b)) - 10)).length) pc69))]) (us := [I (((b.getD 4 0).toNat : Nat) : Int), I (((b.getD 5 0).toNat : Nat) : Int), (.slice pa68 (((b.drop 10).take ((10 + (hdN b)) - 10)).length) pc69)]) ⟨⟨rfl, rfl⟩, ⟨rfl, rfl⟩, ⟨rfl, rfl⟩, trivial⟩ (by kernel_rfl)) ?_
            have H70 : St w [] [[(g1, Rw 26 ([I ((0 : Nat) : Int), I ((0 : Nat) : Int), .slice none 0 0]))], E61, [(g32, Rw 40 ((b.drop (10 + hdN b)).map B8))]] w66 := H67.foc 2 rfl rfl
            refine t0 rfl (ow_storeW (us := [I (((b.getD 4 0).toNat : Nat) : Int), I (((b.getD 5 0).toNat : Nat) : Int), (.slice pa68 (((b.drop 10).take ((10 + (hdN b)) - 10)).length) pc69)]) H70 sz26 rfl rfl rfl (by intro u hu; simp only [List.mem_cons, List.not_mem_nil, or_false] at hu; rcases hu with rfl | rfl | rfl <;> first | rfl | exact Rd.one (ho65.rd H70 1 rfl)) (by simp [*])) ?_
            rintro _ w71 H72'
            have H72 : St w [] [[(g1, Rw 26 ([I (((b.getD 4 0).toNat : Nat) : Int), I (((b.getD 5 0).toNat : Nat) : Int), (.slice pa68 (((b.drop 10).take ((10 + (hdN b)) - 10)).length) pc69)]))], E61, [(g32, Rw 40 ((b.drop (10 + hdN b)).map B8))]] w71 := H72'
            refine tly (v := .nilIface) rfl (y_assign (v := .nilIface) rfl) ?_
            refine p_nil ?_
            refine n_then ?_
            refine wp_ret ?_
            refine e_r2 Tryd.results7 (rv_b H72 (i := 0) rfl ag26 sz26 rfl rfl) (rv_t rfl) ?_
            have he : opE lk b = none := opE_y (by omega) hp7 (by omega) (by omega) (by assumption)
            have H73 : St w [] [E61, [(g1, Rw 26 ([I (((b.getD 4 0).toNat : Nat) : Int), I (((b.getD 5 0).toNat : Nat) : Int), (.slice pa68 (((b.drop 10).take ((10 + (hdN b)) - 10)).length) pc69)]))], [(g32, Rw 40 ((b.drop (10 + hdN b)).map B8))]] w71 := H72.foc 1 rfl rfl
            have H74 : St w [] [E61] w71 := H73.take 1 rfl
            have hq : opB lk b = (b.drop 10).take ((10 + (hdN b)) - 10) := by rw [opB, if_pos he]; congr 1; omega
            have hv0 : opF lk b = (b.getD 4 0).toNat := by rw [opF, if_pos he]
            have hv1 : opT lk b = (b.getD 5 0).toNat := by rw [opT, if_pos he]
            exact ⟨_, rfl, .nilIface, [], (.slice pa68 (((b.drop 10).take ((10 + (hdN b)) - 10)).length) pc69), _, ⟨by rw [hv0, hv1]; rfl, fun h => absurd he h⟩, by rw [he]; exact ⟨rfl, rfl⟩, by rw [hq]; exact ho65, H74.nilp⟩
    · skip
      obtain ⟨e76, i77, he78⟩ := some2 hp7
      refine st (ow_call fn16 rfl (head_err (v1) (b) _ ((hR.st H3)).nil he78) ⟨rfl, trivial⟩) ?_
      rintro _ w75 ⟨g79, rfl, H80⟩
      have H81 : St w [] [[(g79, Rw 50 ([I ((e76 : Nat) : Int), I ((i77 : Nat) : Int)]))], [(g1, Rw 26 ([I ((0 : Nat) : Int), I ((0 : Nat) : Int), .slice none 0 0]))]] w75 := H3.app H80
      refine sy (v := .tuple #[I ((0 : Nat) : Int), .iface 46 (Ad (bs g79) 0)]) (y_move rfl) ?_
      refine sy (v := I ((0 : Nat) : Int)) (y_extract (i := 0) rfl rfl) ?_
      refine sy (v := .iface 46 (Ad (bs g79) 0)) (y_extract (i := 1) rfl rfl) ?_
      refine sy (v := I ((0 : Nat) : Int)) (y_assign rfl) ?_
      refine sy (v := .iface 46 (Ad (bs g79) 0)) (y_assign rfl) ?_
      refine c_nil ?_
      refine n_then ?_
      refine c_seq ?_
      refine c_seq ?_
      refine c_reg ?_
      refine sy (v := .iface 46 (Ad (bs g79) 0)) (y_move rfl) ?_
      refine sy (v := .bool (true)) (y_neqNil Tryd.underlying31 rfl) ?_
      refine c_nil ?_
      refine n_then ?_
      refine c_t rfl rfl ?_
      refine c_seq ?_
      refine c_reg ?_
      refine sy (v := .agg ([I ((0 : Nat) : Int), I ((0 : Nat) : Int), .slice none 0 0]).toArray) (y_build (pv := []) (us := [I ((0 : Nat) : Int), I ((0 : Nat) : Int), .slice none 0 0]) trivial (by kernel_rfl)) ?_
      refine sy (v := .iface 46 (Ad (bs g79) 0)) (y_move rfl) ?_
      have H82 : St w [] [[(g1, Rw 26 ([I ((0 : Nat) : Int), I ((0 : Nat) : Int), .slice none 0 0]))], [(g79, Rw 50 ([I ((e76 : Nat) : Int), I ((i77 : Nat) : Int)]))]] w75 := H81.foc 1 rfl rfl
      refine s0 (ow_storeW (us := [I ((0 : Nat) : Int), I ((0 : Nat) : Int), .slice none 0 0]) H82 sz26 rfl rfl rfl (by simp [Value.oneCell']) (by simp [*])) ?_
      rintro _ w83 H84'
      have H84 : St w [] [[(g1, Rw 26 ([I ((0 : Nat) : Int), I ((0 : Nat) : Int), .slice none 0 0]))], [(g79, Rw 50 ([I ((e76 : Nat) : Int), I ((i77 : Nat) : Int)]))]] w83 := H84'
      refine sy (v := .iface 46 (Ad (bs g79) 0)) (y_assign rfl) ?_
      refine c_nil ?_
      refine n_then ?_
      refine wp_ret ?_
      refine r_then ?_
      refine e_r2 Tryd.results7 (rv_b H84 (i := 0) rfl ag26 sz26 rfl rfl) (rv_t rfl) ?_
      have he : opE lk b = some (e76, some (i77)) := opE_h (by omega) he78
      have H85 : St w [] [[(g79, Rw 50 ([I ((e76 : Nat) : Int), I ((i77 : Nat) : Int)]))], [(g1, Rw 26 ([I ((0 : Nat) : Int), I ((0 : Nat) : Int), .slice none 0 0]))]] w83 := H84.foc 1 rfl rfl
      have H86 : St w [] [[(g79, Rw 50 ([I ((e76 : Nat) : Int), I ((i77 : Nat) : Int)]))]] w83 := H85.take 1 rfl
      have hn : ¬ opE lk b = none := by rw [he]; simp
      have hv0 : opF lk b = 0 := by rw [opF, if_neg hn]
      have hv1 : opT lk b = 0 := by rw [opT, if_neg hn]
      exact ⟨_, rfl, .iface 46 (Ad (bs g79) 0), _, .slice none 0 0, [], ⟨by rw [hv0, hv1]; rfl, fun _ => rfl⟩, by rw [he]; exact ⟨_, rfl, rfl⟩, by rw [opB, if_neg hn]; exact OS.nil 5 1, (H86.nilp).foc 1 rfl rfl⟩

theorem open_ok (v0 v1 : Value) (lk b : List UInt8) (w : World) (hK : Rd [] w 1 v0 lk.length (lk.map B8)) (hR : Rd [] w 1 v1 b.length (b.map B8)) (hlk : lk.length ≤ 140737488355328) (hb : b.length ≤ 281474976710656) (hn : opE lk b = none) :
    Calls Tryd.prog 7 (([v0, v1] : List Value).toArray) w (fun e w' => ∃ v, e = .returned v ∧ ∃ bv EB, v = .tuple #[.agg ([I ((opF lk b : Nat) : Int), I ((opT lk b : Nat) : Int), bv] : List Value).toArray, .nilIface] ∧ OS 5 1 bv (opB lk b).length ((opB lk b).map B8) EB ∧ St w [] [EB] w') :=
  (open_c v0 v1 lk b w hK hR hlk hb).mono fun e w' ⟨v, he, ev, E, bv, EB, ⟨hv, _⟩, hE, ho, H⟩ => by
    rw [hn] at hE
    obtain ⟨rfl, rfl⟩ := hE
    exact ⟨v, he, bv, EB, hv, ho, H.drop⟩
theorem open_err (v0 v1 : Value) (lk b : List UInt8) (w : World) (hK : Rd [] w 1 v0 lk.length (lk.map B8)) (hR : Rd [] w 1 v1 b.length (b.map B8)) (hlk : lk.length ≤ 140737488355328) (hb : b.length ≤ 281474976710656) (hn : ¬ opE lk b = none) :
    Calls Tryd.prog 7 (([v0, v1] : List Value).toArray) w (fun e w' => ∃ v, e = .returned v ∧ ∃ u x, v = .tuple #[.agg ([I ((0 : Nat) : Int), I ((0 : Nat) : Int), .slice none 0 0] : List Value).toArray, .iface u x] ∧ Below w.heap.size w w') :=
  (open_c v0 v1 lk b w hK hR hlk hb).mono fun e w' ⟨v, he, ev, E, bv, EB, hv, hE, ho, H⟩ => by
    have hev : ∃ u x, ev = .iface u x := by
      cases hq : opE lk b with
      | none => exact absurd hq hn
      | some p =>
        obtain ⟨q, i⟩ := p
        rw [hq] at hE
        cases i with
        | none => exact ⟨_, _, hE.1⟩
        | some i => obtain ⟨g, h, -⟩ := hE; exact ⟨_, _, h⟩
    obtain ⟨u, x, rfl⟩ := hev
    exact ⟨v, he, u, x, by rw [hv.1, hv.2 hn, opF, opT, if_neg hn, if_neg hn], H.below⟩

end Go.Proofs.YtdcmbcjkdhdohaaDoor
