/- The walk of told. -/
import Derived.Test.YtdcmbcjkdhdohaaDoorROpen
import Derived.Test.YtdcmbcjkdhdohaaDoorAs2
namespace Go.Proofs.YtdcmbcjkdhdohaaDoor
open Go Go.RowKit
set_option linter.unusedSimpArgs false
set_option linter.unusedVariables false
attribute [local irreducible] wpList wpP Code.wp

/-- The variable errors.errorType holds the type error. -/
def gTyp (w : World) : Prop := w.cell? ⟨0, 0, none⟩ = some (.iface 81 (.agg #[.pointer (some ⟨1, 31, none⟩)]))
theorem gTyp.st {w0 w : World} {X : List Nat} {L : List Part} (h : gTyp w0) (H : St w0 X L w) (hx : 0 ∉ X) : gTyp w := by
  have hlt : 0 < w0.heap.size := by
    rcases Nat.eq_zero_or_pos w0.heap.size with h0 | h1
    · have h2 := h; simp [gTyp, World.cell?, h0] at h2
    · exact h1
  have hk := H.keep 0 hlt hx
  unfold gTyp World.cell? at h ⊢
  rw [hk]; exact h
theorem gTyp.ne {w : World} {g : Nat} {t : TypeId} {k : Int} {r : List Value} (h : gTyp w) (hd : w.heap[g]? = some (Rw t (I k :: r))) : 0 ∉ [g] := by
  intro h0
  have e : g = 0 := (List.mem_singleton.1 h0).symm
  subst e
  unfold gTyp World.cell? at h
  rw [hd] at h
  simp at h
theorem St.set1 {w0 w : World} {X : List Nat} {L : List Part} {t : Nat} {ty : TypeId} {x y : Value} (H : St w0 X ([(t, Rw ty [x])] :: L) w) : St w0 X ([(t, Rw ty [y])] :: L) (w.setCell (bs t) y) := by
  have hd := H.get 0 rfl
  have h2 : St w [t] [[(t, Rw ty [y])]] (w.setCell (bs t) y) := ⟨rfl, rfl, rfl, by simp [World.setCell], fun k _ hk => by
    have hk2 : ¬ t = k := fun e => hk (by simp [e])
    simp [World.setCell, Array.getElem?_modify, hk2], by simp [World.setCell, Array.getElem?_modify, hd], by simp, by simp⟩
  exact H.app1 h2
theorem asHit_c (g t : Nat) (w : World) (hg : gTyp w) (ht : w.heap[t]? = some (Rw 46 [.pointer none])) :
    Calls Tryd.prog 18 (([.iface 46 (Ad (bs g) 0), .iface 48 (Ad (bs t) 0)] : List Value).toArray) w (fun e w' => ∃ v, e = .returned v ∧ v = .bool true ∧ St w [t] [[(t, Rw 46 [Ad (bs g) 0])]] w') := by
  have hc : w.cell? (bs t) = some (.pointer none) := by simp [World.cell?, ht]
  have hf : w.frozen? (bs t) = false := by simp [World.frozen?, ht]
  refine (as_hit (bs g) (bs t) (.pointer none) w hg hc hf).mono fun e w' ⟨he, hw⟩ => ⟨_, he, rfl, ?_⟩
  subst hw
  have H1 := ((((St.init ht).alloc (.cells #[.pointer (some (bs t))] 48)).alloc (.cells #[.pointer (some ⟨1, 48, none⟩), .pointer (some ⟨w.heap.size, 0, none⟩), .int .u64 150] 62)).alloc (.cells #[.pointer (some ⟨1, 48, none⟩), .pointer (some ⟨w.heap.size, 0, none⟩), .int .u64 150] 62)).alloc (.cells #[.pointer (some (bs g))] 46)
  have H2 := H1.foc 4 rfl rfl
  exact (H2.set1 (y := Ad (bs g) 0)).take 1 rfl
theorem asMiss_c (i : Int) (t : Nat) (w : World) (hg : gTyp w) (ht : w.heap[t]? = some (Rw 46 [.pointer none])) :
    Calls Tryd.prog 18 (([.iface 27 (I i), .iface 48 (Ad (bs t) 0)] : List Value).toArray) w (fun e w' => ∃ v, e = .returned v ∧ v = .bool false ∧ Below w.heap.size w w') := by
  have hc : w.cell? (bs t) = some (.pointer none) := by simp [World.cell?, ht]
  refine (as_miss i (bs t) (.pointer none) w hg hc).mono fun e w' ⟨he, hw⟩ => ⟨_, he, rfl, ?_⟩
  subst hw
  exact ((((St.refl w).alloc _).alloc _).alloc _).below
section
variable {P : Program} {n : Nat} {f : Nat → Value} {ty t t2 : TypeId} {w : World} {x y : Operand}
theorem eqI_int {ms : Array (String × TypeId)} {u : TypeId} {k : IntKind} {i : TypeInfo} {a : Int} (d : Nat) (hu : P.underlying t = some (.interface ms)) (hk : P.underlying u = some (.int k)) (hi : P.info? u = some i) (hc : i.comparable = true) : (Op.equalIn (d + 2) t (.iface u (I a)) (.iface u (I a))).run P w = .ok true w := by
  simp [Op.equalIn, run_underlying hu, run_underlying hk, typeInfo, hi, hc]
theorem eqP_nil {e : TypeId} {a : Addr} (d : Nat) (hu : P.underlying t = some (.pointer e)) : (Op.equalIn (d + 1) t (.pointer (some a)) (.pointer none)).run P w = .ok false w := by simp [Op.equalIn, run_underlying hu]
theorem y_eqlI {ms : Array (String × TypeId)} {u : TypeId} {k : IntKind} {i : TypeInfo} {a : Int} (hu : P.underlying t = some (.interface ms)) (hk : P.underlying u = some (.int k)) (hi : P.info? u = some i) (hc : i.comparable = true) (hx : ev n f x = .iface u (I a)) (hy : ev n f y = .iface u (I a)) :
    Y P n f (.binOp .eql t x y t2) ty w (.bool true) w := by
  intro o ho _
  have h1 := eqI_int (w := w) (a := a) 9998 hu hk hi hc
  have hb : (Go.binOp .eql t (.iface u (I a)) (.iface u (I a))).run P w = .ok (.bool true) w := by
    show ((do pure (Value.bool (← Op.equal t (.iface u (I a)) (.iface u (I a))))) : Sem Value).run P w = _
    rw [Sem.run_bind, show Op.equal t (.iface u (I a)) (.iface u (I a)) = Op.equalIn (9998 + 2) t (.iface u (I a)) (.iface u (I a)) from rfl, h1]; rfl
  have hg : (eqGuard .eql t x y (.iface u (I a)) (.iface u (I a))).run P w = .ok PUnit.unit w := by simp [eqGuard]
  simp [execOp, ho, hx, hy, hb, hg]
theorem y_neqPN {e : TypeId} {a : Addr} (hu : P.underlying t = some (.pointer e)) (hx : ev n f x = .pointer (some a)) : Y P n f (.binOp .neq t x (.const (.pointer none)) t2) ty w (.bool true) w := by
  intro o ho _
  have h1 := eqP_nil (w := w) (a := a) 9999 hu
  have hb : (Go.binOp .neq t (.pointer (some a)) (.pointer none)).run P w = .ok (.bool true) w := by
    show ((do pure (Value.bool (!(← Op.equal t (.pointer (some a)) (.pointer none))))) : Sem Value).run P w = _
    rw [Sem.run_bind, show Op.equal t (.pointer (some a)) (.pointer none) = Op.equalIn (9999 + 1) t (.pointer (some a)) (.pointer none) from rfl, h1]; rfl
  have he : ev n f (.const (.pointer none)) = .pointer none := rfl
  have hg : (eqGuard .neq t x (.const (.pointer none)) (.pointer (some a)) (.pointer none)).run P w = .ok PUnit.unit w := by simp [eqGuard]
  simp [execOp, ho, hx, he, hb, hg]
end
theorem cmp27 : ∃ i, Tryd.prog.info? 27 = some i ∧ i.comparable = true := by
  have h : (Tryd.prog.info? 27).map (·.comparable) = some true := by kernel_rfl
  cases hi : Tryd.prog.info? 27 with
  | none => rw [hi] at h; cases h
  | some i => rw [hi] at h; exact ⟨i, rfl, Option.some.inj h⟩

theorem told0_c (w : World) :
    Calls Tryd.prog 9 (([.nilIface, I ((0 : Nat) : Int), I (0)] : List Value).toArray) w (fun e w' => ∃ v, e = .returned v ∧ v = .bool true ∧ Below w.heap.size w w') := by
 refine calls_mk Tryd.func9 rfl 47 Tryd.ntmps9 rfl ?_
 have H0 : St w [] [] w := St.refl w
 refine c_seq ?_
 refine c_reg ?_
 refine sy (v := .bool (false)) (y_assign (v := .bool (false)) rfl) ?_
 refine c_nil ?_
 refine n_then ?_
 refine c_seq ?_
 refine c_seq ?_
 refine c_reg ?_
 refine sy (v := I ((0 : Nat) : Int)) (y_move rfl) ?_
 refine sy (v := .bool (decide (0 = 0))) (n_eql (a := 0) (b := 0) rfl rfl) ?_
 refine c_nil ?_
 refine n_then ?_
 have hq1 : 0 = 0 := rfl
 refine c_t rfl (decide_eq_true hq1) ?_
 refine c_seq ?_
 refine c_reg ?_
 refine sy (v := .nilIface) (y_move rfl) ?_
 refine sy (v := .bool (true)) (y_eqlNil0 Tryd.underlying31 rfl) ?_
 refine sy (v := .bool (true)) (y_assign rfl) ?_
 refine c_nil ?_
 refine n_then ?_
 refine wp_ret ?_
 refine r_then ?_
 refine e_r1 Tryd.results9 (rv_t rfl) ?_
 exact ⟨_, rfl, rfl, H0.below⟩

theorem told1_c (er : Nat) (w : World) (he0 : ¬ er = 0) (hg : gTyp w) :
    Calls Tryd.prog 9 (([.iface 27 (I (er : Int)), I ((er : Nat) : Int), I (-1)] : List Value).toArray) w (fun e w' => ∃ v, e = .returned v ∧ v = .bool true ∧ Below w.heap.size w w') := by
 refine calls_mk Tryd.func9 rfl 47 Tryd.ntmps9 rfl ?_
 have H0 : St w [] [] w := St.refl w
 refine c_seq ?_
 refine c_reg ?_
 refine sy (v := .bool (false)) (y_assign (v := .bool (false)) rfl) ?_
 refine c_nil ?_
 refine n_then ?_
 refine c_seq ?_
 refine c_seq ?_
 refine c_reg ?_
 refine sy (v := I ((er : Nat) : Int)) (y_move rfl) ?_
 refine sy (v := .bool (decide (er = 0))) (n_eql (a := er) (b := 0) rfl rfl) ?_
 refine c_nil ?_
 refine n_then ?_
 have hq1 : ¬ (er = 0) := he0
 refine c_f rfl (decide_eq_false hq1) ?_
 refine wp_skip ?_
 refine n_then ?_
 refine c_seq ?_
 refine c_reg ?_
 refine st (ow_alloc (l := [.pointer none]) H0 zr46 rfl) ?_
 rintro _ w3 ⟨g2, rfl, H4⟩
 refine c_nil ?_
 refine n_then ?_
 refine c_seq ?_
 refine c_reg ?_
 refine sy (v := .iface 27 (I (er : Int))) (y_move rfl) ?_
 refine sy (v := .iface 48 (Ad (bs g2) 0)) (y_mkI (v := Ad (bs g2) (0)) Tryd.underlying48 rfl rfl) ?_
 refine st (ow_call fn18 rfl (asMiss_c (er : Int) g2 _ (gTyp.st hg H4 (by simp)) (H4.get 0 rfl)) ⟨rfl, rfl, trivial⟩) ?_
 rintro _ w5 ⟨rfl, hB6⟩
 have H7 : St w _ [_] w5 := H4.call hB6
 refine sy (v := .bool (false)) (y_assign rfl) ?_
 refine c_nil ?_
 refine n_then ?_
 refine c_seq ?_
 refine c_seq ?_
 refine c_reg ?_
 refine sy (v := I (-1)) (y_move rfl) ?_
 refine sy (v := .bool (decide ((-1) < ((0 : Nat) : Int)))) (y_lss (i := (-1)) (j := ((0 : Nat) : Int)) rfl rfl) ?_
 refine c_nil ?_
 refine n_then ?_
 have hq8 : (-1) < ((0 : Nat) : Int) := (by omega)
 refine c_t rfl (decide_eq_true hq8) ?_
 refine c_seq ?_
 refine c_reg ?_
 refine sy (v := .bool (false)) (y_move rfl) ?_
 refine sy (v := .bool (true)) (y_not (p := false) rfl) ?_
 refine sy (v := .bool (true)) (y_move rfl) ?_
 refine gsy (v := .iface 27 (I (er : Int))) (gv_of (t := 20) rfl rfl rfl) (rfl) (y_move rfl) ?_
 refine gsy (v := I ((er : Nat) : Int)) (gv_of (t := 20) rfl rfl rfl) (rfl) (y_move rfl) ?_
 refine gsy (v := .iface 27 (I ((er : Nat) : Int))) (gv_of (t := 20) rfl rfl rfl) (rfl) (y_mkI (v := I ((er : Nat) : Int)) Tryd.underlying27 rfl rfl) ?_
 obtain ⟨i27, hi27, hc27⟩ := cmp27
 refine gsy (v := .bool (true)) (gv_of (t := 20) rfl rfl rfl) (rfl) (y_eqlI (u := 27) (a := (er : Int)) Tryd.underlying31 Tryd.underlying27 hi27 hc27 rfl rfl) ?_
 refine sy (v := .bool (true)) (y_pickT rfl (rfl) rfl) ?_
 refine sy (v := .bool (true)) (y_assign rfl) ?_
 refine c_nil ?_
 refine n_then ?_
 refine wp_ret ?_
 refine r_then ?_
 refine e_r1 Tryd.results9 (rv_t rfl) ?_
 exact ⟨_, rfl, rfl, H7.below⟩

theorem told2_c (er pl g : Nat) (w : World) (he0 : ¬ er = 0) (hg : gTyp w) (hd : w.heap[g]? = some (Rw 50 [I (er : Int), I (pl : Int)])) :
    Calls Tryd.prog 9 (([.iface 46 (Ad (bs g) 0), I ((er : Nat) : Int), I ((pl : Nat) : Int)] : List Value).toArray) w (fun e w' => ∃ v, e = .returned v ∧ v = .bool true ∧ St w [g] [[(g, Rw 50 [I (er : Int), I (pl : Int)])]] w') := by
 have hgx := hg.ne hd
 refine calls_mk Tryd.func9 rfl 47 Tryd.ntmps9 rfl ?_
 have H0 : St w [g] [[(g, Rw 50 ([I ((er : Nat) : Int), I ((pl : Nat) : Int)]))]] w := St.init hd
 refine c_seq ?_
 refine c_reg ?_
 refine sy (v := .bool (false)) (y_assign (v := .bool (false)) rfl) ?_
 refine c_nil ?_
 refine n_then ?_
 refine c_seq ?_
 refine c_seq ?_
 refine c_reg ?_
 refine sy (v := I ((er : Nat) : Int)) (y_move rfl) ?_
 refine sy (v := .bool (decide (er = 0))) (n_eql (a := er) (b := 0) rfl rfl) ?_
 refine c_nil ?_
 refine n_then ?_
 have hq1 : ¬ (er = 0) := he0
 refine c_f rfl (decide_eq_false hq1) ?_
 refine wp_skip ?_
 refine n_then ?_
 refine c_seq ?_
 refine c_reg ?_
 refine st (ow_alloc (l := [.pointer none]) H0 zr46 rfl) ?_
 rintro _ w3 ⟨g2, rfl, H4⟩
 refine c_nil ?_
 refine n_then ?_
 refine c_seq ?_
 refine c_reg ?_
 refine sy (v := .iface 46 (Ad (bs g) 0)) (y_move rfl) ?_
 refine sy (v := .iface 48 (Ad (bs g2) 0)) (y_mkI (v := Ad (bs g2) (0)) Tryd.underlying48 rfl rfl) ?_
 refine st (ow_call fn18 rfl (asHit_c g g2 _ (gTyp.st hg H4 hgx) (H4.get 0 rfl)) ⟨rfl, rfl, trivial⟩) ?_
 rintro _ w5 ⟨rfl, H6⟩
 have H7 : St w _ [_, _] w5 := H4.app1 H6
 refine sy (v := .bool (true)) (y_assign rfl) ?_
 refine c_nil ?_
 refine n_then ?_
 refine c_seq ?_
 refine c_seq ?_
 refine c_reg ?_
 refine sy (v := I ((pl : Nat) : Int)) (y_move rfl) ?_
 refine sy (v := .bool (decide (pl < 0))) (n_lss (a := pl) (b := 0) rfl rfl) ?_
 refine c_nil ?_
 refine n_then ?_
 have hq8 : ¬ (pl < 0) := (by omega)
 refine c_f rfl (decide_eq_false hq8) ?_
 refine wp_skip ?_
 refine n_then ?_
 refine c_seq ?_
 refine c_reg ?_
 refine sy (v := .bool (true)) (y_move rfl) ?_
 refine sy (v := .bool (true)) (y_move rfl) ?_
 refine gsy (v := Ad (bs g) (0)) (gv_of (t := 27) rfl rfl rfl) (rfl) (y_load sc46 rfl (H7.cell 0 rfl rfl)) ?_
 refine gsy (v := .bool (true)) (gv_of (t := 27) rfl rfl rfl) (rfl) (y_neqPN (a := (bs g).add 0) Tryd.underlying46 rfl) ?_
 refine sy (v := .bool (true)) (y_pickT rfl (rfl) rfl) ?_
 refine sy (v := .bool (true)) (y_move rfl) ?_
 refine gsy (v := Ad (bs g) (0)) (gv_of (t := 31) rfl rfl rfl) (rfl) (y_load sc46 rfl (H7.cell 0 rfl rfl)) ?_
 refine gsy (v := Ad (bs g) (0)) (gv_of (t := 31) rfl rfl rfl) (rfl) (y_nilCheck rfl) ?_
 refine gsy (v := Ad (bs g) (0 + 0)) (gv_of (t := 31) rfl rfl rfl) (rfl) (y_fld Tryd.underlying50 rfl rfl sz27 (by decide) rfl) ?_
 refine gsy (v := I ((er : Nat) : Int)) (gv_of (t := 31) rfl rfl rfl) (rfl) (y_load sc27 rfl (H7.cell 1 rfl rfl)) ?_
 refine gsy (v := I ((er : Nat) : Int)) (gv_of (t := 31) rfl rfl rfl) (rfl) (y_move rfl) ?_
 refine gsy (v := .bool (decide (er = er))) (gv_of (t := 31) rfl rfl rfl) (rfl) (n_eql (a := er) (b := er) rfl rfl) ?_
 refine sy (v := .bool (decide (er = er))) (y_pickT rfl (rfl) rfl) ?_
 refine sy (v := .bool (decide (er = er))) (y_move rfl) ?_
 have hq9 : er = er := rfl
 refine gsy (v := Ad (bs g) (0)) (gv_of (t := 39) rfl rfl rfl) (decide_eq_true hq9) (y_load sc46 rfl (H7.cell 0 rfl rfl)) ?_
 refine gsy (v := Ad (bs g) (0)) (gv_of (t := 39) rfl rfl rfl) (decide_eq_true hq9) (y_nilCheck rfl) ?_
 refine gsy (v := Ad (bs g) (0 + 1)) (gv_of (t := 39) rfl rfl rfl) (decide_eq_true hq9) (y_fld Tryd.underlying50 rfl rfl sz3 (by decide) rfl) ?_
 refine gsy (v := I ((pl : Nat) : Int)) (gv_of (t := 39) rfl rfl rfl) (decide_eq_true hq9) (y_load sc3 rfl (H7.cell 1 rfl rfl)) ?_
 refine gsy (v := I ((pl : Nat) : Int)) (gv_of (t := 39) rfl rfl rfl) (decide_eq_true hq9) (y_move rfl) ?_
 refine gsy (v := .bool (decide (pl = pl))) (gv_of (t := 39) rfl rfl rfl) (decide_eq_true hq9) (n_eql (a := pl) (b := pl) rfl rfl) ?_
 refine sy (v := .bool (decide (pl = pl))) (y_pickT rfl (decide_eq_true hq9) rfl) ?_
 refine sy (v := .bool (decide (pl = pl))) (y_assign rfl) ?_
 refine c_nil ?_
 refine n_then ?_
 refine wp_ret ?_
 refine e_r1 Tryd.results9 (rv_t rfl) ?_
 have H10 : St w _ [_, _] w5 := H7.foc 1 rfl rfl
 have H11 : St w _ [_] w5 := H10.take 1 rfl
 have hq12 : pl = pl := rfl
 have hz : (.bool (decide (pl = pl)) : Value) = .bool true := congrArg Value.bool (decide_eq_true hq12)
 exact ⟨_, rfl, hz, H11⟩

theorem told_c (o : Option (Nat × Option Nat)) (ev : Value) (E : Part) (w : World) (hE : EO o ev E) (ho : ∀ e q, o = some (e, q) → e ≠ 0) (hown : ∀ p ∈ E, w.heap[p.1]? = some p.2) (hg : gTyp w) :
    Calls Tryd.prog 9 (([ev, I ((erN o : Nat) : Int), I (plN o)] : List Value).toArray) w (fun e w' => ∃ v, e = .returned v ∧ v = .bool true ∧ St w (E.map (·.1)) [E] w') := by
  match o, hE, ho with
  | none, hE, _ =>
    obtain ⟨rfl, rfl⟩ := hE
    exact (told0_c w).mono fun e w' ⟨v, he, hv, hb⟩ => ⟨v, he, hv, (St.of_below hb).nilp⟩
  | some (e, none), hE, ho =>
    obtain ⟨rfl, rfl⟩ := hE
    exact (told1_c e w (ho e none rfl) hg).mono fun e w' ⟨v, he, hv, hb⟩ => ⟨v, he, hv, (St.of_below hb).nilp⟩
  | some (e, some i), hE, ho =>
    obtain ⟨g, rfl, rfl⟩ := hE
    exact told2_c e i g w (ho e (some i) rfl) hg (hown _ List.mem_cons_self)
theorem hdM_nz {b : List UInt8} {e : Nat × Nat} : ∀ {k i : Nat}, hdM b k i = some e → e.1 ≠ 0
  | 0, _, h => by cases h
  | k + 1, i, h => by
    simp only [hdM] at h
    split at h
    · cases h; simp
    · split at h
      · cases h; simp
      · exact hdM_nz h
theorem hdR_nz {b : List UInt8} {e : Nat × Nat} : ∀ {k i : Nat}, hdR b k i = some e → e.1 ≠ 0
  | 0, _, h => by cases h
  | k + 1, i, h => by
    simp only [hdR] at h
    split at h
    · cases h; simp
    · split at h
      · cases h; simp
      · exact hdR_nz h
theorem hdE_nz {b : List UInt8} {e : Nat × Nat} (h : hdE b = some e) : e.1 ≠ 0 := by
  unfold hdE at h
  split at h
  · rename_i h1; cases h; exact hdM_nz h1
  · split at h
    · rename_i h1; cases h; exact hdR_nz h1
    · split at h
      · cases h; simp
      · split at h
        · cases h; simp
        · cases h
theorem opE_nz {lk b : List UInt8} : ∀ e q, opE lk b = some (e, q) → e ≠ 0 := by
  intro e q h
  unfold opE at h
  split at h
  · cases h; simp
  · split at h
    · rename_i h1; cases h; exact hdE_nz h1
    · split at h
      · cases h; simp
      · split at h
        · cases h; simp
        · split at h
          · cases h; simp
          · cases h

end Go.Proofs.YtdcmbcjkdhdohaaDoor
