/- Walks: roots.climb, stands. -/
import Derived.Test.YtdcmbcjkdhdohaaRootsW
namespace Go.Proofs.Ytdcmbcjkdhdohaa
open Go Go.RowKit
set_option linter.unusedSimpArgs false
set_option linter.unusedVariables false
attribute [local irreducible] wpList wpP Code.wp

theorem mid_get {α : Type} {l us : List α} {k j : Nat} {u : α} (h : (l.drop k).take us.length = us) (hu : us[j]? = some u) : l[k + j]? = some u := by
  have hj := (List.getElem?_eq_some_iff.1 hu).1
  rw [← h, List.getElem?_take_of_lt hj, List.getElem?_drop] at hu
  exact hu
theorem leaf_mid {f : Lf} {j : Nat} {u : Value} (hu : f.cell.cs[j]? = some u) : f.cs[1 + j]? = some u := by
  have hj := (List.getElem?_eq_some_iff.1 hu).1
  have h3 : f.cell.cs.length = 3 := rfl
  rw [Nat.add_comm]
  match j, hj with
  | 0, _ => exact hu
  | 1, _ => exact hu
  | 2, _ => exact hu
section
variable {P : Program} {n : Nat} {f : Nat → Value} {ty t t2 e : TypeId} {w : World} {x : Operand}
theorem eqS_run (m : Nat) {a : Option Addr} {k c : Nat} (hu : P.underlying t = some (.slice e)) : (Op.equalIn (m + 1) t (.slice a k c) (.slice none 0 0)).run P w = .ok a.isNone w := by
  cases a <;> simp [Op.equalIn, run_underlying hu]
theorem y_eqlSN {a : Option Addr} {k c : Nat} (hu : P.underlying t = some (.slice e)) (hx : ev n f x = .slice a k c) : Y P n f (.binOp .eql t x (.const (.slice none 0 0)) t2) ty w (.bool a.isNone) w := by
  intro o ho _
  have h1 := eqS_run (P := P) (w := w) 9999 (a := a) (k := k) (c := c) hu
  have hb : (Go.binOp .eql t (.slice a k c) (.slice none 0 0)).run P w = .ok (.bool a.isNone) w := by
    show ((do pure (Value.bool (← Op.equal t (.slice a k c) (.slice none 0 0)))) : Sem Value).run P w = _
    rw [Sem.run_bind, show Op.equal t (.slice a k c) (.slice none 0 0) = Op.equalIn (9999 + 1) t (.slice a k c) (.slice none 0 0) from rfl, h1]; rfl
  have he : ev n f (.const (.slice none 0 0)) = .slice none 0 0 := rfl
  have hg : (eqGuard .eql t x (.const (.slice none 0 0)) (.slice a k c) (.slice none 0 0)).run P w = .ok PUnit.unit w := by simp [eqGuard]
  simp [execOp, ho, hx, he, hb, hg]
end
def ClimbC (path : List (List UInt8)) : Prop := ∀ (n i : Nat) (h : List UInt8) (pv : Value) (w : World), h.length = 32 → 0 < n → i < n → n ≤ 9223372036854775807 → Rd [] w 32 pv path.length (path.flatten.map B8) → H32 path → path.length ≤ 1099511627776 →
  Calls Try.prog 122 (([I ((n : Nat) : Int), I ((i : Nat) : Int), .agg (h.map B8).toArray, pv] : List Value).toArray) w (fun e w' => ∃ v, e = .returned v ∧ ∃ x, v = .tuple #[.agg (x.map B8).toArray, .bool (climbH n i h path).isSome] ∧ x.length = 32 ∧ (∀ y, climbH n i h path = some y → x = y) ∧ Below w.heap.size w w')
section
variable {root : List UInt8} {kind : Int} {key : List UInt8} {n : Int} {ls : List Lf}
abbrev PE (ls : List Lf) : List Le := ls.map (fun q : Lf => q.e)
theorem ck_kind (h : ¬ kMay kind) : checkA root kind key n (PE ls) = (40, none) := by unfold checkA; rw [if_pos h]
theorem ck_no (hk : kMay kind) (h1 : ¬ (n = 0 ∧ ls.length = 0)) (h2 : ¬ (0 < n ∧ (ls.length = 1 ∨ ls.length = 2) ∧ ∀ f ∈ PE ls, stands root n f)) : checkA root kind key n (PE ls) = (190, none) := by
  unfold checkA; rw [if_neg (not_not_intro hk), List.length_map, if_neg h1, if_neg h2]
theorem ck_top (hk : kMay kind) (h1 : n = 0) (h2 : ls.length = 0) : checkA root kind key n (PE ls) = if topH 0 [] = root then (0, none) else (190, none) := by
  unfold checkA; rw [if_neg (not_not_intro hk), List.length_map, if_pos ⟨h1, h2⟩]
theorem ck_say (hk : kMay kind) (h0 : 0 < n) (hl : ls.length = 1 ∨ ls.length = 2) (hs : ∀ f ∈ PE ls, stands root n f) : checkA root kind key n (PE ls) = if saysA kind key n (PE ls) = 1 then (0, some ((PE ls).getD 0 le0).c) else if saysA kind key n (PE ls) = 0 then (0, none) else (190, none) := by
  unfold checkA; rw [if_neg (not_not_intro hk), List.length_map, if_neg (by omega), if_pos ⟨h0, hl, hs⟩]
theorem pe_all {q : Le → Prop} (h : ∀ j, j < ls.length → q (ls.getD j lf0).e) : ∀ f ∈ PE ls, q f := by
  intro f hf
  obtain ⟨g, hg, rfl⟩ := List.mem_map.1 hf
  obtain ⟨j, hj⟩ := List.getElem?_of_mem hg
  have hl := (List.getElem?_eq_some_iff.1 hj).1
  have := h j hl
  rw [List.getD_eq_getElem?_getD, hj] at this
  exact this
theorem pe_mem {j : Nat} (h : j < ls.length) : (ls.getD j lf0).e ∈ PE ls := by
  rw [List.getD_eq_getElem?_getD, List.getElem?_eq_getElem h]; exact List.mem_map_of_mem (List.getElem_mem h)
theorem says_one (h : ls.length = 1) : saysA kind key n (PE ls) = (if plcC (ls.getD 0 lf0).cell.c.k (ls.getD 0 lf0).cell.c.key kind key = 0 then 1 else if (0 < plcC (ls.getD 0 lf0).cell.c.k (ls.getD 0 lf0).cell.c.key kind key ∧ (ls.getD 0 lf0).n = 0) ∨ (plcC (ls.getD 0 lf0).cell.c.k (ls.getD 0 lf0).cell.c.key kind key < 0 ∧ (ls.getD 0 lf0).n = n - 1) then 0 else -1) ∧ ((PE ls).getD 0 le0).c = (ls.getD 0 lf0).cell.c := by
  match ls, h with
  | [f], _ => exact ⟨rfl, rfl⟩
theorem says_two (h : ls.length = 2) : saysA kind key n (PE ls) = (if plcC (ls.getD 0 lf0).cell.c.k (ls.getD 0 lf0).cell.c.key kind key < 0 ∧ 0 < plcC (ls.getD 1 lf0).cell.c.k (ls.getD 1 lf0).cell.c.key kind key ∧ (ls.getD 1 lf0).n = (ls.getD 0 lf0).n + 1 then 0 else -1) := by
  match ls, h with
  | [f, g], _ => rfl
end
def cz : Ce := ⟨0, [], []⟩

attribute [local irreducible] leafH innerH topH rootH rootA sha

theorem climb_step (n i : Nat) (h : List UInt8) (pv : Value) (path : List (List UInt8)) (w : World) (hh : h.length = 32) (hn0 : 0 < n) (hin : i < n) (hn : n ≤ 9223372036854775807) (hP : Rd [] w 32 pv path.length (path.flatten.map B8)) (hhp : H32 path) (hpl : path.length ≤ 1099511627776) (IH : ∀ path' : List (List UInt8), path'.length < path.length → ClimbC path') :
    Calls Try.prog 122 (([I ((n : Nat) : Int), I ((i : Nat) : Int), .agg (h.map B8).toArray, pv] : List Value).toArray) w (fun e w' => ∃ v, e = .returned v ∧ ∃ x, v = .tuple #[.agg (x.map B8).toArray, .bool (climbH n i h path).isSome] ∧ x.length = 32 ∧ (∀ y, climbH n i h path = some y → x = y) ∧ Below w.heap.size w w') := by
 refine calls_mk Try.func122 rfl 72 Try.ntmps122 rfl ?_
 have H0 : St w [] [] w := St.refl w
 refine c_seq ?_
 refine c_reg ?_
 refine st (ow_box (l := (h).map B8) H0 rfl rfl) ?_
 rintro _ w2 ⟨g1, rfl, H3⟩
 refine st (ow_alloc (l := (List.replicate 32 0).map B8) H3 zr26 (by simp [Value.cells])) ?_
 rintro _ w5 ⟨g4, rfl, H6⟩
 refine sy (v := .bool (false)) (y_assign (v := .bool (false)) rfl) ?_
 refine c_nil ?_
 refine n_then ?_
 refine c_seq ?_
 refine c_seq ?_
 refine c_reg ?_
 refine sy (v := I ((n : Nat) : Int)) (y_move rfl) ?_
 refine sy (v := .bool (decide (n = 1))) (n_eql (a := n) (b := 1) rfl rfl) ?_
 refine c_nil ?_
 refine n_then ?_
 refine c_if rfl (fun hc7 => ?_) (fun hc7 => ?_)
 ·
  refine c_seq ?_
  refine c_reg ?_
  refine sy (v := .agg (h.map B8).toArray) (y_loadA (us := (h).map B8) ag26 sz26 ((List.length_map _).trans hh) rfl (fun j u hu => (H6.cell 1 rfl (by rw [Nat.zero_add]; exact hu)))) ?_
  refine sy (v := pv) (y_move rfl) ?_
  refine sy (v := I ((path.length : Nat) : Int)) (y_lenR Try.underlying72 (hP.st H6) rfl) ?_
  refine sy (v := .bool (decide (path.length = 0))) (n_eql (a := path.length) (b := 0) rfl rfl) ?_
  refine s0 (ow_storeW (us := (h).map B8) H6 sz26 ((List.length_map _).trans hh) rfl rfl (map_one (F := B8) (fun _ => rfl) _) ((List.length_map _).trans List.length_replicate)) ?_
  rintro _ w8 H9'
  have H9 : St w _ [[(g4, Rw 26 ((h).map B8))], _] w8 := H9'
  refine sy (v := .bool (decide (path.length = 0))) (y_assign rfl) ?_
  refine c_nil ?_
  refine n_then ?_
  refine wp_ret ?_
  refine r_then ?_
  refine e_r2 Try.results122 (rv_b H9 (i := 0) rfl ag26 sz26 ((List.length_map _).trans hh) rfl) (rv_t rfl) ?_
  have hb : decide (path.length = 0) = (climbH n i h path).isSome := by
   by_cases hp : path.length = 0
   · rw [ch_one (by omega) hp, decide_eq_true hp]; rfl
   · rw [ch_one' (by omega) hp, decide_eq_false hp]; rfl
  exact ⟨_, rfl, h, by rw [← hb]; rfl, hh, (fun y hy => by
   by_cases hp : path.length = 0
   · rw [ch_one (by omega) hp] at hy; exact Option.some.inj hy
   · rw [ch_one' (by omega) hp] at hy; cases hy), H9.below⟩
 ·
  refine wp_skip ?_
  refine n_then ?_
  refine c_seq ?_
  refine c_seq ?_
  refine c_reg ?_
  refine sy (v := pv) (y_move rfl) ?_
  refine sy (v := I ((path.length : Nat) : Int)) (y_lenR Try.underlying72 (hP.st H6) rfl) ?_
  refine sy (v := .bool (decide (path.length = 0))) (n_eql (a := path.length) (b := 0) rfl rfl) ?_
  refine c_nil ?_
  refine n_then ?_
  refine c_if rfl (fun hc10 => ?_) (fun hc10 => ?_)
  ·
   refine c_seq ?_
   refine c_reg ?_
   refine sy (v := .agg (h.map B8).toArray) (y_loadA (us := (h).map B8) ag26 sz26 ((List.length_map _).trans hh) rfl (fun j u hu => (H6.cell 1 rfl (by rw [Nat.zero_add]; exact hu)))) ?_
   refine s0 (ow_storeW (us := (h).map B8) H6 sz26 ((List.length_map _).trans hh) rfl rfl (map_one (F := B8) (fun _ => rfl) _) ((List.length_map _).trans List.length_replicate)) ?_
   rintro _ w11 H12'
   have H12 : St w _ [[(g4, Rw 26 ((h).map B8))], _] w11 := H12'
   refine sy (v := .bool (false)) (y_assign (v := .bool (false)) rfl) ?_
   refine c_nil ?_
   refine n_then ?_
   refine wp_ret ?_
   refine r_then ?_
   refine e_r2 Try.results122 (rv_b H12 (i := 0) rfl ag26 sz26 ((List.length_map _).trans hh) rfl) (rv_t rfl) ?_
   have hb : climbH n i h path = none := ch_nil (by omega) (by omega)
   exact ⟨_, rfl, h, by rw [hb]; rfl, hh, (fun y hy => by rw [hb] at hy; cases hy), H12.below⟩
  ·
   refine wp_skip ?_
   refine n_then ?_
   refine c_seq ?_
   have hh1 := half_lt (n := n) (by omega)
   have hh2 := half_pos n
   refine c_reg ?_
   refine sy (v := I ((n : Nat) : Int)) (y_move rfl) ?_
   refine st (ow_call fn128 rfl (half_c (n) _ (by omega) (by omega)) ⟨rfl, trivial⟩) ?_
   rintro _ w13 ⟨rfl, hB14⟩
   have H15 : St w _ [_, _] w13 := H6.call hB14
   refine sy (v := pv) (y_move rfl) ?_
   refine sy (v := I ((path.length : Nat) : Int)) (y_lenR Try.underlying72 (hP.st H15) rfl) ?_
   refine sy (v := I ((path.length - 1 : Nat) : Int)) (n_sub (a := path.length) (b := 1) rfl rfl (by omega) (by omega)) ?_
   refine sy (v := I ((half n : Nat) : Int)) (y_assign rfl) ?_
   refine sy (v := I ((path.length - 1 : Nat) : Int)) (y_assign rfl) ?_
   refine c_nil ?_
   refine n_then ?_
   refine c_seq ?_
   refine c_seq ?_
   refine c_reg ?_
   refine sy (v := I ((i : Nat) : Int)) (y_move rfl) ?_
   refine sy (v := I ((half n : Nat) : Int)) (y_move rfl) ?_
   refine sy (v := .bool (decide (i < (half n)))) (n_lss (a := i) (b := half n) rfl rfl) ?_
   refine c_nil ?_
   refine n_then ?_
   refine c_if rfl (fun hc16 => ?_) (fun hc16 => ?_)
   ·
    refine c_seq ?_
    refine drawS (.step 0 0 (.step 0 1 (.step 0 2 (.step 0 3 (.step 0 4 (.step 0 5 (.alt 6 (.step 0 7 (.step 0 8 (.step 0 9 (.step 1 10 (.step 1 11 (.step 0 12 .nil)))))) (.alt 10 (.step 1 6 (.step 0 7 (.step 0 8 (.step 0 9 (.step 1 11 (.step 0 12 .nil)))))) .stop)))))))) mixed H15 (by kernel_rfl) (by kernel_rfl) (by kernel_rfl) ?_
    intro w17 H18
    refine pt (v := I ((half n : Nat) : Int)) rfl (fun wS HS => y_move rfl) ?_
    refine pt (v := I ((i : Nat) : Int)) rfl (fun wS HS => y_move rfl) ?_
    refine pt (v := .agg (h.map B8).toArray) rfl (fun wS HS => y_loadA (us := (h).map B8) ag26 sz26 ((List.length_map _).trans hh) rfl (fun j u hu => (HS.cell 1 rfl (by rw [Nat.zero_add]; exact hu)))) ?_
    refine pt (v := pv) rfl (fun wS HS => y_move rfl) ?_
    refine pt (v := I ((path.length - 1 : Nat) : Int)) rfl (fun wS HS => y_move rfl) ?_
    refine pt (v := slv 32 0 (path.length - 1) pv) rfl (fun wS HS => y_slR (k1 := .i64) (k2 := .i64) (l := 0) (h := path.length - 1) Try.underlying72 sz26 (hP.st HS) rfl (.inl ⟨rfl, rfl⟩) (.inr ⟨_, rfl, rfl⟩) (by omega) (by omega)) ?_
    refine al rfl (ow_call fn122 rfl (IH (path.take (path.length - 1)) (by rw [List.length_take]; omega) (half n) (i) (h) (slv 32 0 (path.length - 1) pv) _ hh (by omega) (by omega) (by omega) ((rdh_pre (hP.st H18) (by omega) hhp)).nil (hh_take (m := path.length - 1) hhp) (by rw [List.length_take]; omega)) ⟨rfl, rfl, rfl, rfl, trivial⟩) ?_ ?_
    ·
     rintro _ w20 ⟨x19, rfl, hxl22, hxs23, hB21⟩
     have H24 : St w _ [_, _] w20 := H18.call hB21
     refine ⟨H24, ?_⟩
     refine pt (v := .tuple #[.agg (x19.map B8).toArray, .bool ((climbH (half n) i h (path.take (path.length - 1))).isSome)]) rfl (fun wS HS => y_move rfl) ?_
     refine pt (v := .agg (x19.map B8).toArray) rfl (fun wS HS => y_extract (i := 0) rfl rfl) ?_
     refine pt (v := .bool ((climbH (half n) i h (path.take (path.length - 1))).isSome)) rfl (fun wS HS => y_extract (i := 1) rfl rfl) ?_
     refine pl rfl (ow_alloc (l := (List.replicate 32 0).map B8) H24 zr26 (by simp [Value.cells])) ?_
     rintro _ w26 ⟨g25, rfl, H27⟩
     have H28 : St w _ [_, _, _] w26 := H27.foc 2 rfl rfl
     have H29 : St w _ [_, _, _] w26 := H28.foc 2 rfl rfl
     have H30 : St w _ [_, _] w26 := H29.take 2 rfl
     refine ⟨H30, ?_⟩
     refine p0 rfl (ow_storeW (us := (x19).map B8) H27 sz26 ((List.length_map _).trans hxl22) rfl rfl (map_one (F := B8) (fun _ => rfl) _) ((List.length_map _).trans List.length_replicate)) ?_
     rintro _ w31 H32'
     have H32 : St w _ [[(g25, Rw 26 ((x19).map B8))], _, _] w31 := H32'
     have H33 : St w _ [_, _, _] w31 := H32.foc 2 rfl rfl
     have H34 : St w _ [_, _, _] w31 := H33.foc 2 rfl rfl
     have H35 : St w _ [_, _] w31 := H34.take 2 rfl
     refine ⟨H35, ?_⟩
     refine pt (v := .bool ((climbH (half n) i h (path.take (path.length - 1))).isSome)) rfl (fun wS HS => y_assign rfl) ?_
     refine p_nil ?_
     refine n_then ?_
     refine c_seq ?_
     have H36 : St w _ [_, _, _] w31 := H32.foc 1 rfl rfl
     refine drawSub (.step 0 0 (.step 0 1 (.step 0 2 (.step 0 3 (.step 0 4 (.step 0 6 (.step 1 5 (.step 1 7 (.step 2 8 .nil))))))))) mixed H36 (fun _ h => h.drop) (by kernel_rfl) (by kernel_rfl) (by kernel_rfl) ?_
     intro w37 H38
     refine pt (v := .agg (x19.map B8).toArray) rfl (fun wS HS => y_loadA (us := (x19).map B8) ag26 sz26 ((List.length_map _).trans hxl22) rfl (fun j u hu => (HS.cell 0 rfl (by rw [Nat.zero_add]; exact hu)))) ?_
     refine pt (v := pv) rfl (fun wS HS => y_move rfl) ?_
     refine pt (v := I ((path.length - 1 : Nat) : Int)) rfl (fun wS HS => y_move rfl) ?_
     refine pt (v := Ad (sp (pv)) ((path.length - 1) * 32)) rfl (fun wS HS => y_ixR (m := path.length - 1) Try.underlying72 sz26 (hP.st HS) (by decide) rfl rfl rfl (by omega)) ?_
     refine pt (v := .agg ((path.getD (path.length - 1) []).map B8).toArray) rfl (fun wS HS => y_loadA (us := (path.getD (path.length - 1) []).map B8) ag26 sz26 ((List.length_map _).trans (getD_len hhp (by omega))) rfl (fun j u hu => (hP.st HS).cell _ _ (flat_get hhp (by omega) hu))) ?_
     refine pt (v := .bool ((climbH (half n) i h (path.take (path.length - 1))).isSome)) rfl (fun wS HS => y_move rfl) ?_
     refine pl rfl (ow_call fn140 rfl (inner_c (x19) (path.getD (path.length - 1) []) _ hxl22 (getD_len hhp (by omega))) ⟨rfl, rfl, trivial⟩) ?_
     rintro _ w39 ⟨rfl, hB40⟩
     have H41 : St w _ [_, _, _] w39 := H38.call hB40
     have H42 : St w _ [_, _, _] w39 := H41.foc 2 rfl rfl
     have H43 : St w _ [_, _, _] w39 := H42.foc 2 rfl rfl
     have H44 : St w _ [_, _] w39 := H43.take 2 rfl
     refine ⟨H44, ?_⟩
     refine p0 rfl (ow_storeW (us := (innerH x19 (path.getD (path.length - 1) [])).map B8) H41 sz26 ((List.length_map _).trans (innerH_len x19 (path.getD (path.length - 1) []))) rfl rfl (map_one (F := B8) (fun _ => rfl) _) ((List.length_map _).trans List.length_replicate)) ?_
     rintro _ w45 H46'
     have H46 : St w _ [[(g4, Rw 26 ((innerH x19 (path.getD (path.length - 1) [])).map B8))], _, _] w45 := H46'
     have H47 : St w _ [_, _, _] w45 := H46.foc 2 rfl rfl
     have H48 : St w _ [_, _, _] w45 := H47.foc 2 rfl rfl
     have H49 : St w _ [_, _] w45 := H48.take 2 rfl
     refine ⟨H49, ?_⟩
     refine tly (v := .bool ((climbH (half n) i h (path.take (path.length - 1))).isSome)) rfl (y_assign rfl) ?_
     refine p_nil ?_
     refine n_then ?_
     refine wp_ret ?_
     refine r_then ?_
     refine e_r2 Try.results122 (rv_b H46 (i := 0) rfl ag26 sz26 ((List.length_map _).trans (innerH_len x19 (path.getD (path.length - 1) []))) rfl) (rv_t rfl) ?_
     have hc := ch_l (n := n) (i := i) (h := h) (path := path) (by omega) (by omega) (by omega)
     exact ⟨_, rfl, innerH x19 (path.getD (path.length - 1) []), by rw [hc, Option.isSome_map]; rfl, innerH_len _ _, (fun y hy => by
      rw [hc] at hy
      obtain ⟨z, hz, rfl⟩ := Option.map_eq_some_iff.1 hy
      rw [hxs23 z hz]), H46.below⟩
    refine al rfl (ow_alloc (l := (List.replicate 32 0).map B8) H18 zr26 (by simp [Value.cells])) ?_ ?_
    ·
     rintro _ w51 ⟨g50, rfl, H52⟩
     have H53 : St w _ [_, _, _] w51 := H52.foc 2 rfl rfl
     have H54 : St w _ [_, _, _] w51 := H53.foc 2 rfl rfl
     have H55 : St w _ [_, _] w51 := H54.take 2 rfl
     refine ⟨H55, ?_⟩
     refine pl rfl (ow_call fn122 rfl (IH (path.take (path.length - 1)) (by rw [List.length_take]; omega) (half n) (i) (h) (slv 32 0 (path.length - 1) pv) _ hh (by omega) (by omega) (by omega) ((rdh_pre (hP.st H52) (by omega) hhp)).nil (hh_take (m := path.length - 1) hhp) (by rw [List.length_take]; omega)) ⟨rfl, rfl, rfl, rfl, trivial⟩) ?_
     rintro _ w57 ⟨x56, rfl, hxl59, hxs60, hB58⟩
     have H61 : St w _ [_, _, _] w57 := H52.call hB58
     have H62 : St w _ [_, _, _] w57 := H61.foc 2 rfl rfl
     have H63 : St w _ [_, _, _] w57 := H62.foc 2 rfl rfl
     have H64 : St w _ [_, _] w57 := H63.take 2 rfl
     refine ⟨H64, ?_⟩
     refine pt (v := .tuple #[.agg (x56.map B8).toArray, .bool ((climbH (half n) i h (path.take (path.length - 1))).isSome)]) rfl (fun wS HS => y_move rfl) ?_
     refine pt (v := .agg (x56.map B8).toArray) rfl (fun wS HS => y_extract (i := 0) rfl rfl) ?_
     refine pt (v := .bool ((climbH (half n) i h (path.take (path.length - 1))).isSome)) rfl (fun wS HS => y_extract (i := 1) rfl rfl) ?_
     refine p0 rfl (ow_storeW (us := (x56).map B8) H61 sz26 ((List.length_map _).trans hxl59) rfl rfl (map_one (F := B8) (fun _ => rfl) _) ((List.length_map _).trans List.length_replicate)) ?_
     rintro _ w65 H66'
     have H66 : St w _ [[(g50, Rw 26 ((x56).map B8))], _, _] w65 := H66'
     have H67 : St w _ [_, _, _] w65 := H66.foc 2 rfl rfl
     have H68 : St w _ [_, _, _] w65 := H67.foc 2 rfl rfl
     have H69 : St w _ [_, _] w65 := H68.take 2 rfl
     refine ⟨H69, ?_⟩
     refine pt (v := .bool ((climbH (half n) i h (path.take (path.length - 1))).isSome)) rfl (fun wS HS => y_assign rfl) ?_
     refine p_nil ?_
     refine n_then ?_
     refine c_seq ?_
     have H70 : St w _ [_, _, _] w65 := H66.foc 1 rfl rfl
     refine drawSub (.step 0 0 (.step 0 1 (.step 0 2 (.step 0 3 (.step 0 4 (.step 0 6 (.step 1 5 (.step 1 7 (.step 2 8 .nil))))))))) mixed H70 (fun _ h => h.drop) (by kernel_rfl) (by kernel_rfl) (by kernel_rfl) ?_
     intro w71 H72
     refine pt (v := .agg (x56.map B8).toArray) rfl (fun wS HS => y_loadA (us := (x56).map B8) ag26 sz26 ((List.length_map _).trans hxl59) rfl (fun j u hu => (HS.cell 0 rfl (by rw [Nat.zero_add]; exact hu)))) ?_
     refine pt (v := pv) rfl (fun wS HS => y_move rfl) ?_
     refine pt (v := I ((path.length - 1 : Nat) : Int)) rfl (fun wS HS => y_move rfl) ?_
     refine pt (v := Ad (sp (pv)) ((path.length - 1) * 32)) rfl (fun wS HS => y_ixR (m := path.length - 1) Try.underlying72 sz26 (hP.st HS) (by decide) rfl rfl rfl (by omega)) ?_
     refine pt (v := .agg ((path.getD (path.length - 1) []).map B8).toArray) rfl (fun wS HS => y_loadA (us := (path.getD (path.length - 1) []).map B8) ag26 sz26 ((List.length_map _).trans (getD_len hhp (by omega))) rfl (fun j u hu => (hP.st HS).cell _ _ (flat_get hhp (by omega) hu))) ?_
     refine pt (v := .bool ((climbH (half n) i h (path.take (path.length - 1))).isSome)) rfl (fun wS HS => y_move rfl) ?_
     refine pl rfl (ow_call fn140 rfl (inner_c (x56) (path.getD (path.length - 1) []) _ hxl59 (getD_len hhp (by omega))) ⟨rfl, rfl, trivial⟩) ?_
     rintro _ w73 ⟨rfl, hB74⟩
     have H75 : St w _ [_, _, _] w73 := H72.call hB74
     have H76 : St w _ [_, _, _] w73 := H75.foc 2 rfl rfl
     have H77 : St w _ [_, _, _] w73 := H76.foc 2 rfl rfl
     have H78 : St w _ [_, _] w73 := H77.take 2 rfl
     refine ⟨H78, ?_⟩
     refine p0 rfl (ow_storeW (us := (innerH x56 (path.getD (path.length - 1) [])).map B8) H75 sz26 ((List.length_map _).trans (innerH_len x56 (path.getD (path.length - 1) []))) rfl rfl (map_one (F := B8) (fun _ => rfl) _) ((List.length_map _).trans List.length_replicate)) ?_
     rintro _ w79 H80'
     have H80 : St w _ [[(g4, Rw 26 ((innerH x56 (path.getD (path.length - 1) [])).map B8))], _, _] w79 := H80'
     have H81 : St w _ [_, _, _] w79 := H80.foc 2 rfl rfl
     have H82 : St w _ [_, _, _] w79 := H81.foc 2 rfl rfl
     have H83 : St w _ [_, _] w79 := H82.take 2 rfl
     refine ⟨H83, ?_⟩
     refine tly (v := .bool ((climbH (half n) i h (path.take (path.length - 1))).isSome)) rfl (y_assign rfl) ?_
     refine p_nil ?_
     refine n_then ?_
     refine wp_ret ?_
     refine r_then ?_
     refine e_r2 Try.results122 (rv_b H80 (i := 0) rfl ag26 sz26 ((List.length_map _).trans (innerH_len x56 (path.getD (path.length - 1) []))) rfl) (rv_t rfl) ?_
     have hc := ch_l (n := n) (i := i) (h := h) (path := path) (by omega) (by omega) (by omega)
     exact ⟨_, rfl, innerH x56 (path.getD (path.length - 1) []), by rw [hc, Option.isSome_map]; rfl, innerH_len _ _, (fun y hy => by
      rw [hc] at hy
      obtain ⟨z, hz, rfl⟩ := Option.map_eq_some_iff.1 hy
      rw [hxs60 z hz]), H80.below⟩
    exact a_stop
   ·
    refine wp_skip ?_
    refine n_then ?_
    refine c_seq ?_
    refine drawS (.step 0 0 (.step 0 1 (.step 0 2 (.step 0 3 (.step 0 4 (.step 0 5 (.step 0 6 (.step 0 7 (.step 0 8 (.step 0 9 (.alt 10 (.step 0 11 (.step 0 12 (.step 0 13 (.step 1 14 (.step 1 15 (.step 0 16 .nil)))))) (.alt 14 (.step 1 10 (.step 0 11 (.step 0 12 (.step 0 13 (.step 1 15 (.step 0 16 .nil)))))) .stop)))))))))))) mixed H15 (by kernel_rfl) (by kernel_rfl) (by kernel_rfl) ?_
    intro w84 H85
    refine pt (v := I ((n : Nat) : Int)) rfl (fun wS HS => y_move rfl) ?_
    refine pt (v := I ((half n : Nat) : Int)) rfl (fun wS HS => y_move rfl) ?_
    refine pt (v := I ((n - (half n) : Nat) : Int)) rfl (fun wS HS => n_sub (a := n) (b := half n) rfl rfl (by omega) (by omega)) ?_
    refine pt (v := I ((i : Nat) : Int)) rfl (fun wS HS => y_move rfl) ?_
    refine pt (v := I ((half n : Nat) : Int)) rfl (fun wS HS => y_move rfl) ?_
    refine pt (v := I ((i - (half n) : Nat) : Int)) rfl (fun wS HS => n_sub (a := i) (b := half n) rfl rfl (by omega) (by omega)) ?_
    refine pt (v := .agg (h.map B8).toArray) rfl (fun wS HS => y_loadA (us := (h).map B8) ag26 sz26 ((List.length_map _).trans hh) rfl (fun j u hu => (HS.cell 1 rfl (by rw [Nat.zero_add]; exact hu)))) ?_
    refine pt (v := pv) rfl (fun wS HS => y_move rfl) ?_
    refine pt (v := I ((path.length - 1 : Nat) : Int)) rfl (fun wS HS => y_move rfl) ?_
    refine pt (v := slv 32 0 (path.length - 1) pv) rfl (fun wS HS => y_slR (k1 := .i64) (k2 := .i64) (l := 0) (h := path.length - 1) Try.underlying72 sz26 (hP.st HS) rfl (.inl ⟨rfl, rfl⟩) (.inr ⟨_, rfl, rfl⟩) (by omega) (by omega)) ?_
    refine al rfl (ow_call fn122 rfl (IH (path.take (path.length - 1)) (by rw [List.length_take]; omega) (n - (half n)) (i - (half n)) (h) (slv 32 0 (path.length - 1) pv) _ hh (by omega) (by omega) (by omega) ((rdh_pre (hP.st H85) (by omega) hhp)).nil (hh_take (m := path.length - 1) hhp) (by rw [List.length_take]; omega)) ⟨rfl, rfl, rfl, rfl, trivial⟩) ?_ ?_
    ·
     rintro _ w87 ⟨x86, rfl, hxl89, hxs90, hB88⟩
     have H91 : St w _ [_, _] w87 := H85.call hB88
     refine ⟨H91, ?_⟩
     refine pt (v := .tuple #[.agg (x86.map B8).toArray, .bool ((climbH (n - (half n)) (i - (half n)) h (path.take (path.length - 1))).isSome)]) rfl (fun wS HS => y_move rfl) ?_
     refine pt (v := .agg (x86.map B8).toArray) rfl (fun wS HS => y_extract (i := 0) rfl rfl) ?_
     refine pt (v := .bool ((climbH (n - (half n)) (i - (half n)) h (path.take (path.length - 1))).isSome)) rfl (fun wS HS => y_extract (i := 1) rfl rfl) ?_
     refine pl rfl (ow_alloc (l := (List.replicate 32 0).map B8) H91 zr26 (by simp [Value.cells])) ?_
     rintro _ w93 ⟨g92, rfl, H94⟩
     have H95 : St w _ [_, _, _] w93 := H94.foc 2 rfl rfl
     have H96 : St w _ [_, _, _] w93 := H95.foc 2 rfl rfl
     have H97 : St w _ [_, _] w93 := H96.take 2 rfl
     refine ⟨H97, ?_⟩
     refine p0 rfl (ow_storeW (us := (x86).map B8) H94 sz26 ((List.length_map _).trans hxl89) rfl rfl (map_one (F := B8) (fun _ => rfl) _) ((List.length_map _).trans List.length_replicate)) ?_
     rintro _ w98 H99'
     have H99 : St w _ [[(g92, Rw 26 ((x86).map B8))], _, _] w98 := H99'
     have H100 : St w _ [_, _, _] w98 := H99.foc 2 rfl rfl
     have H101 : St w _ [_, _, _] w98 := H100.foc 2 rfl rfl
     have H102 : St w _ [_, _] w98 := H101.take 2 rfl
     refine ⟨H102, ?_⟩
     refine pt (v := .bool ((climbH (n - (half n)) (i - (half n)) h (path.take (path.length - 1))).isSome)) rfl (fun wS HS => y_assign rfl) ?_
     refine p_nil ?_
     refine n_then ?_
     refine c_seq ?_
     have H103 : St w _ [_, _, _] w98 := H99.foc 1 rfl rfl
     refine drawSub (.step 0 0 (.step 0 1 (.step 0 2 (.step 0 3 (.step 0 4 (.step 0 6 (.step 1 5 (.step 1 7 (.step 2 8 .nil))))))))) mixed H103 (fun _ h => h.drop) (by kernel_rfl) (by kernel_rfl) (by kernel_rfl) ?_
     intro w104 H105
     refine pt (v := pv) rfl (fun wS HS => y_move rfl) ?_
     refine pt (v := I ((path.length - 1 : Nat) : Int)) rfl (fun wS HS => y_move rfl) ?_
     refine pt (v := Ad (sp (pv)) ((path.length - 1) * 32)) rfl (fun wS HS => y_ixR (m := path.length - 1) Try.underlying72 sz26 (hP.st HS) (by decide) rfl rfl rfl (by omega)) ?_
     refine pt (v := .agg ((path.getD (path.length - 1) []).map B8).toArray) rfl (fun wS HS => y_loadA (us := (path.getD (path.length - 1) []).map B8) ag26 sz26 ((List.length_map _).trans (getD_len hhp (by omega))) rfl (fun j u hu => (hP.st HS).cell _ _ (flat_get hhp (by omega) hu))) ?_
     refine pt (v := .agg (x86.map B8).toArray) rfl (fun wS HS => y_loadA (us := (x86).map B8) ag26 sz26 ((List.length_map _).trans hxl89) rfl (fun j u hu => (HS.cell 0 rfl (by rw [Nat.zero_add]; exact hu)))) ?_
     refine pt (v := .bool ((climbH (n - (half n)) (i - (half n)) h (path.take (path.length - 1))).isSome)) rfl (fun wS HS => y_move rfl) ?_
     refine pl rfl (ow_call fn140 rfl (inner_c (path.getD (path.length - 1) []) (x86) _ (getD_len hhp (by omega)) hxl89) ⟨rfl, rfl, trivial⟩) ?_
     rintro _ w106 ⟨rfl, hB107⟩
     have H108 : St w _ [_, _, _] w106 := H105.call hB107
     have H109 : St w _ [_, _, _] w106 := H108.foc 2 rfl rfl
     have H110 : St w _ [_, _, _] w106 := H109.foc 2 rfl rfl
     have H111 : St w _ [_, _] w106 := H110.take 2 rfl
     refine ⟨H111, ?_⟩
     refine p0 rfl (ow_storeW (us := (innerH (path.getD (path.length - 1) []) x86).map B8) H108 sz26 ((List.length_map _).trans (innerH_len (path.getD (path.length - 1) []) x86)) rfl rfl (map_one (F := B8) (fun _ => rfl) _) ((List.length_map _).trans List.length_replicate)) ?_
     rintro _ w112 H113'
     have H113 : St w _ [[(g4, Rw 26 ((innerH (path.getD (path.length - 1) []) x86).map B8))], _, _] w112 := H113'
     have H114 : St w _ [_, _, _] w112 := H113.foc 2 rfl rfl
     have H115 : St w _ [_, _, _] w112 := H114.foc 2 rfl rfl
     have H116 : St w _ [_, _] w112 := H115.take 2 rfl
     refine ⟨H116, ?_⟩
     refine tly (v := .bool ((climbH (n - (half n)) (i - (half n)) h (path.take (path.length - 1))).isSome)) rfl (y_assign rfl) ?_
     refine p_nil ?_
     refine n_then ?_
     refine wp_ret ?_
     refine e_r2 Try.results122 (rv_b H113 (i := 0) rfl ag26 sz26 ((List.length_map _).trans (innerH_len (path.getD (path.length - 1) []) x86)) rfl) (rv_t rfl) ?_
     have hc := ch_r (n := n) (i := i) (h := h) (path := path) (by omega) (by omega) (by omega)
     exact ⟨_, rfl, innerH (path.getD (path.length - 1) []) x86, by rw [hc, Option.isSome_map]; rfl, innerH_len _ _, (fun y hy => by
      rw [hc] at hy
      obtain ⟨z, hz, rfl⟩ := Option.map_eq_some_iff.1 hy
      rw [hxs90 z hz]), H113.below⟩
    refine al rfl (ow_alloc (l := (List.replicate 32 0).map B8) H85 zr26 (by simp [Value.cells])) ?_ ?_
    ·
     rintro _ w118 ⟨g117, rfl, H119⟩
     have H120 : St w _ [_, _, _] w118 := H119.foc 2 rfl rfl
     have H121 : St w _ [_, _, _] w118 := H120.foc 2 rfl rfl
     have H122 : St w _ [_, _] w118 := H121.take 2 rfl
     refine ⟨H122, ?_⟩
     refine pl rfl (ow_call fn122 rfl (IH (path.take (path.length - 1)) (by rw [List.length_take]; omega) (n - (half n)) (i - (half n)) (h) (slv 32 0 (path.length - 1) pv) _ hh (by omega) (by omega) (by omega) ((rdh_pre (hP.st H119) (by omega) hhp)).nil (hh_take (m := path.length - 1) hhp) (by rw [List.length_take]; omega)) ⟨rfl, rfl, rfl, rfl, trivial⟩) ?_
     rintro _ w124 ⟨x123, rfl, hxl126, hxs127, hB125⟩
     have H128 : St w _ [_, _, _] w124 := H119.call hB125
     have H129 : St w _ [_, _, _] w124 := H128.foc 2 rfl rfl
     have H130 : St w _ [_, _, _] w124 := H129.foc 2 rfl rfl
     have H131 : St w _ [_, _] w124 := H130.take 2 rfl
     refine ⟨H131, ?_⟩
     refine pt (v := .tuple #[.agg (x123.map B8).toArray, .bool ((climbH (n - (half n)) (i - (half n)) h (path.take (path.length - 1))).isSome)]) rfl (fun wS HS => y_move rfl) ?_
     refine pt (v := .agg (x123.map B8).toArray) rfl (fun wS HS => y_extract (i := 0) rfl rfl) ?_
     refine pt (v := .bool ((climbH (n - (half n)) (i - (half n)) h (path.take (path.length - 1))).isSome)) rfl (fun wS HS => y_extract (i := 1) rfl rfl) ?_
     refine p0 rfl (ow_storeW (us := (x123).map B8) H128 sz26 ((List.length_map _).trans hxl126) rfl rfl (map_one (F := B8) (fun _ => rfl) _) ((List.length_map _).trans List.length_replicate)) ?_
     rintro _ w132 H133'
     have H133 : St w _ [[(g117, Rw 26 ((x123).map B8))], _, _] w132 := H133'
     have H134 : St w _ [_, _, _] w132 := H133.foc 2 rfl rfl
     have H135 : St w _ [_, _, _] w132 := H134.foc 2 rfl rfl
     have H136 : St w _ [_, _] w132 := H135.take 2 rfl
     refine ⟨H136, ?_⟩
     refine pt (v := .bool ((climbH (n - (half n)) (i - (half n)) h (path.take (path.length - 1))).isSome)) rfl (fun wS HS => y_assign rfl) ?_
     refine p_nil ?_
     refine n_then ?_
     refine c_seq ?_
     have H137 : St w _ [_, _, _] w132 := H133.foc 1 rfl rfl
     refine drawSub (.step 0 0 (.step 0 1 (.step 0 2 (.step 0 3 (.step 0 4 (.step 0 6 (.step 1 5 (.step 1 7 (.step 2 8 .nil))))))))) mixed H137 (fun _ h => h.drop) (by kernel_rfl) (by kernel_rfl) (by kernel_rfl) ?_
     intro w138 H139
     refine pt (v := pv) rfl (fun wS HS => y_move rfl) ?_
     refine pt (v := I ((path.length - 1 : Nat) : Int)) rfl (fun wS HS => y_move rfl) ?_
     refine pt (v := Ad (sp (pv)) ((path.length - 1) * 32)) rfl (fun wS HS => y_ixR (m := path.length - 1) Try.underlying72 sz26 (hP.st HS) (by decide) rfl rfl rfl (by omega)) ?_
     refine pt (v := .agg ((path.getD (path.length - 1) []).map B8).toArray) rfl (fun wS HS => y_loadA (us := (path.getD (path.length - 1) []).map B8) ag26 sz26 ((List.length_map _).trans (getD_len hhp (by omega))) rfl (fun j u hu => (hP.st HS).cell _ _ (flat_get hhp (by omega) hu))) ?_
     refine pt (v := .agg (x123.map B8).toArray) rfl (fun wS HS => y_loadA (us := (x123).map B8) ag26 sz26 ((List.length_map _).trans hxl126) rfl (fun j u hu => (HS.cell 0 rfl (by rw [Nat.zero_add]; exact hu)))) ?_
     refine pt (v := .bool ((climbH (n - (half n)) (i - (half n)) h (path.take (path.length - 1))).isSome)) rfl (fun wS HS => y_move rfl) ?_
     refine pl rfl (ow_call fn140 rfl (inner_c (path.getD (path.length - 1) []) (x123) _ (getD_len hhp (by omega)) hxl126) ⟨rfl, rfl, trivial⟩) ?_
     rintro _ w140 ⟨rfl, hB141⟩
     have H142 : St w _ [_, _, _] w140 := H139.call hB141
     have H143 : St w _ [_, _, _] w140 := H142.foc 2 rfl rfl
     have H144 : St w _ [_, _, _] w140 := H143.foc 2 rfl rfl
     have H145 : St w _ [_, _] w140 := H144.take 2 rfl
     refine ⟨H145, ?_⟩
     refine p0 rfl (ow_storeW (us := (innerH (path.getD (path.length - 1) []) x123).map B8) H142 sz26 ((List.length_map _).trans (innerH_len (path.getD (path.length - 1) []) x123)) rfl rfl (map_one (F := B8) (fun _ => rfl) _) ((List.length_map _).trans List.length_replicate)) ?_
     rintro _ w146 H147'
     have H147 : St w _ [[(g4, Rw 26 ((innerH (path.getD (path.length - 1) []) x123).map B8))], _, _] w146 := H147'
     have H148 : St w _ [_, _, _] w146 := H147.foc 2 rfl rfl
     have H149 : St w _ [_, _, _] w146 := H148.foc 2 rfl rfl
     have H150 : St w _ [_, _] w146 := H149.take 2 rfl
     refine ⟨H150, ?_⟩
     refine tly (v := .bool ((climbH (n - (half n)) (i - (half n)) h (path.take (path.length - 1))).isSome)) rfl (y_assign rfl) ?_
     refine p_nil ?_
     refine n_then ?_
     refine wp_ret ?_
     refine e_r2 Try.results122 (rv_b H147 (i := 0) rfl ag26 sz26 ((List.length_map _).trans (innerH_len (path.getD (path.length - 1) []) x123)) rfl) (rv_t rfl) ?_
     have hc := ch_r (n := n) (i := i) (h := h) (path := path) (by omega) (by omega) (by omega)
     exact ⟨_, rfl, innerH (path.getD (path.length - 1) []) x123, by rw [hc, Option.isSome_map]; rfl, innerH_len _ _, (fun y hy => by
      rw [hc] at hy
      obtain ⟨z, hz, rfl⟩ := Option.map_eq_some_iff.1 hy
      rw [hxs127 z hz]), H147.below⟩
    exact a_stop

theorem climb_all : ∀ (m : Nat) (path : List (List UInt8)), path.length ≤ m → ClimbC path
  | 0, path, h1 => fun n i h pv w q1 q2 q3 q4 q5 q6 q7 => climb_step n i h pv path w q1 q2 q3 q4 q5 q6 q7 (fun p hp => by omega)
  | m + 1, path, h1 => fun n i h pv w q1 q2 q3 q4 q5 q6 q7 => climb_step n i h pv path w q1 q2 q3 q4 q5 q6 q7 (fun p hp => climb_all m p (by omega))

theorem climb_some (n i : Nat) (h : List UInt8) (pv : Value) (path : List (List UInt8)) (w : World) (q1 : h.length = 32) (q2 : 0 < n) (q3 : i < n) (q4 : n ≤ 9223372036854775807) (q5 : Rd [] w 32 pv path.length (path.flatten.map B8)) (q6 : H32 path) (q7 : path.length ≤ 1099511627776) {t : List UInt8} (ht : climbH n i h path = some t) :
    Calls Try.prog 122 (([I ((n : Nat) : Int), I ((i : Nat) : Int), .agg (h.map B8).toArray, pv] : List Value).toArray) w (fun e w' => ∃ v, e = .returned v ∧ v = .tuple #[.agg (t.map B8).toArray, .bool true] ∧ Below w.heap.size w w') :=
  (climb_all _ path (Nat.le_refl _) n i h pv w q1 q2 q3 q4 q5 q6 q7).mono fun e w' ⟨v, he, x, hv, hl, hy, hB⟩ => ⟨v, he, by rw [hv, ht, hy t ht]; rfl, hB⟩
theorem climb_none (n i : Nat) (h : List UInt8) (pv : Value) (path : List (List UInt8)) (w : World) (q1 : h.length = 32) (q2 : 0 < n) (q3 : i < n) (q4 : n ≤ 9223372036854775807) (q5 : Rd [] w 32 pv path.length (path.flatten.map B8)) (q6 : H32 path) (q7 : path.length ≤ 1099511627776) (ht : climbH n i h path = none) :
    Calls Try.prog 122 (([I ((n : Nat) : Int), I ((i : Nat) : Int), .agg (h.map B8).toArray, pv] : List Value).toArray) w (fun e w' => ∃ v, e = .returned v ∧ ∃ x : List UInt8, v = .tuple #[.agg (x.map B8).toArray, .bool false] ∧ x.length = 32 ∧ Below w.heap.size w w') :=
  (climb_all _ path (Nat.le_refl _) n i h pv w q1 q2 q3 q4 q5 q6 q7).mono fun e w' ⟨v, he, x, hv, hl, hy, hB⟩ => ⟨v, he, x, by rw [hv, ht]; rfl, hl, hB⟩

theorem stands_c (root : List UInt8) (n fn : Int) (c : Cl) (pv : Value) (path : List (List UInt8)) (w : World) (hr : root.length = 32) (hn : n ≤ 9223372036854775807) (hC : CR [] w c) (hP : Rd [] w 32 pv path.length (path.flatten.map B8)) (hhp : H32 path) (hpl : path.length ≤ 1099511627776) :
    Calls Try.prog 88 (([.agg (root.map B8).toArray, I (n), .agg ([I fn, I c.c.k, .string (bst c.c.key), c.v, pv]).toArray] : List Value).toArray) w (fun e w' => ∃ v, e = .returned v ∧ ∃ b : Bool, v = .bool b ∧ (b = true ↔ stands root n ⟨fn, c.c, path⟩) ∧ Below w.heap.size w w') := by
 refine calls_mk Try.func88 rfl 45 Try.ntmps88 rfl ?_
 have H0 : St w [] [] w := St.refl w
 refine c_seq ?_
 refine c_reg ?_
 refine st (ow_box (l := (root).map B8) H0 rfl rfl) ?_
 rintro _ w2 ⟨g1, rfl, H3⟩
 refine st (ow_box (l := [I (fn), I (c.c.k), .string (bst c.c.key), c.v, pv]) H3 rfl rfl) ?_
 rintro _ w5 ⟨g4, rfl, H6⟩
 refine sy (v := .bool (false)) (y_assign (v := .bool (false)) rfl) ?_
 refine c_nil ?_
 refine n_then ?_
 refine c_seq ?_
 refine c_seq ?_
 refine c_reg ?_
 refine sy (v := Ad (bs g4) (0 + 0)) (y_fld Try.underlying74 rfl rfl sz3 (by decide) rfl) ?_
 refine sy (v := I (fn)) (y_load sc3 rfl (H6.cell 0 rfl rfl)) ?_
 refine sy (v := .bool (decide (fn < ((0 : Nat) : Int)))) (y_lss (i := fn) (j := ((0 : Nat) : Int)) rfl rfl) ?_
 refine sy (v := .bool (decide (fn < ((0 : Nat) : Int)))) (y_move rfl) ?_
 by_cases hp7 : fn < ((0 : Nat) : Int)
 ·
  refine gno (gv_of (t := 12) rfl rfl rfl) (decide_eq_true hp7) ?_
  refine gno (gv_of (t := 12) rfl rfl rfl) (decide_eq_true hp7) ?_
  refine gno (gv_of (t := 12) rfl rfl rfl) (decide_eq_true hp7) ?_
  refine gno (gv_of (t := 12) rfl rfl rfl) (decide_eq_true hp7) ?_
  refine sy (v := .bool (true)) (y_pickT (v := .bool (true)) rfl (decide_eq_true hp7) rfl) ?_
  refine sy (v := .bool (true)) (y_move rfl) ?_
  refine gno (t := true) (b := false) (gv_of (t := 18) rfl rfl rfl) (rfl) ?_
  refine gno (t := true) (b := false) (gv_of (t := 18) rfl rfl rfl) (rfl) ?_
  refine gno (t := true) (b := false) (gv_of (t := 18) rfl rfl rfl) (rfl) ?_
  refine gno (t := true) (b := false) (gv_of (t := 18) rfl rfl rfl) (rfl) ?_
  refine gno (t := true) (b := false) (gv_of (t := 18) rfl rfl rfl) (rfl) ?_
  refine sy (v := .bool (true)) (y_pickT (v := .bool (true)) rfl (rfl) rfl) ?_
  refine c_nil ?_
  refine n_then ?_
  refine c_t rfl rfl ?_
  refine c_seq ?_
  refine c_reg ?_
  refine sy (v := .bool (false)) (y_assign (v := .bool (false)) rfl) ?_
  refine c_nil ?_
  refine n_then ?_
  refine wp_ret ?_
  refine r_then ?_
  refine e_r1 Try.results88 (rv_t rfl) ?_
  exact ⟨_, rfl, false, rfl, ⟨fun h => absurd h (by simp), fun ⟨h1, h2, h3, h4⟩ => by
   have h2' : 0 ≤ fn := h2
   have h3' : fn < n := h3
   have h1' : kMay c.c.k := h1
   first | (exact absurd h1' (by assumption)) | omega⟩, H6.below⟩
 ·
  refine gsy (v := Ad (bs g4) (0 + 0)) (gv_of (t := 12) rfl rfl rfl) (decide_eq_false hp7) (y_fld Try.underlying74 rfl rfl sz3 (by decide) rfl) ?_
  refine gsy (v := I (fn)) (gv_of (t := 12) rfl rfl rfl) (decide_eq_false hp7) (y_load sc3 rfl (H6.cell 0 rfl rfl)) ?_
  refine gsy (v := I (n)) (gv_of (t := 12) rfl rfl rfl) (decide_eq_false hp7) (y_move rfl) ?_
  refine gsy (v := .bool (decide (n ≤ fn))) (gv_of (t := 12) rfl rfl rfl) (decide_eq_false hp7) (y_geq (i := fn) (j := n) rfl rfl) ?_
  refine sy (v := .bool (decide (n ≤ fn))) (y_pickF rfl (decide_eq_false hp7) rfl) ?_
  refine sy (v := .bool (decide (n ≤ fn))) (y_move rfl) ?_
  by_cases hp8 : n ≤ fn
  ·
   refine gno (gv_of (t := 18) rfl rfl rfl) (decide_eq_true hp8) ?_
   refine gno (gv_of (t := 18) rfl rfl rfl) (decide_eq_true hp8) ?_
   refine gno (gv_of (t := 18) rfl rfl rfl) (decide_eq_true hp8) ?_
   refine gno (gv_of (t := 18) rfl rfl rfl) (decide_eq_true hp8) ?_
   refine gno (gv_of (t := 18) rfl rfl rfl) (decide_eq_true hp8) ?_
   refine sy (v := .bool (true)) (y_pickT (v := .bool (true)) rfl (decide_eq_true hp8) rfl) ?_
   refine c_nil ?_
   refine n_then ?_
   refine c_t rfl rfl ?_
   refine c_seq ?_
   refine c_reg ?_
   refine sy (v := .bool (false)) (y_assign (v := .bool (false)) rfl) ?_
   refine c_nil ?_
   refine n_then ?_
   refine wp_ret ?_
   refine r_then ?_
   refine e_r1 Try.results88 (rv_t rfl) ?_
   exact ⟨_, rfl, false, rfl, ⟨fun h => absurd h (by simp), fun ⟨h1, h2, h3, h4⟩ => by
    have h2' : 0 ≤ fn := h2
    have h3' : fn < n := h3
    have h1' : kMay c.c.k := h1
    first | (exact absurd h1' (by assumption)) | omega⟩, H6.below⟩
  ·
   refine gsy (v := Ad (bs g4) (0 + 1)) (gv_of (t := 18) rfl rfl rfl) (decide_eq_false hp8) (y_fld Try.underlying74 rfl rfl sz48 (by decide) rfl) ?_
   refine gsy (v := Ad (bs g4) ((0 + 1) + 0)) (gv_of (t := 18) rfl rfl rfl) (decide_eq_false hp8) (y_fld Try.underlying48 rfl rfl sz3 (by decide) rfl) ?_
   refine gsy (v := I (c.c.k)) (gv_of (t := 18) rfl rfl rfl) (decide_eq_false hp8) (y_load sc3 rfl (H6.cell 0 rfl rfl)) ?_
   refine gst (gv_of (t := 18) rfl rfl rfl) (decide_eq_false hp8) (ow_call fn86 rfl (known_c (c.c.k) _) ⟨rfl, trivial⟩) ?_
   rintro _ w9 ⟨rfl, hB10⟩
   have H11 : St w _ [_, _] w9 := H6.call hB10
   refine gsy (v := .bool (decide (¬ (kMay c.c.k)))) (gv_of (t := 18) rfl rfl rfl) (decide_eq_false hp8) (y_notP rfl) ?_
   refine sy (v := .bool (decide (¬ (kMay c.c.k)))) (y_pickF rfl (decide_eq_false hp8) rfl) ?_
   refine c_nil ?_
   refine n_then ?_
   refine c_if rfl (fun hc12 => ?_) (fun hc12 => ?_)
   ·
    refine c_seq ?_
    refine c_reg ?_
    refine sy (v := .bool (false)) (y_assign (v := .bool (false)) rfl) ?_
    refine c_nil ?_
    refine n_then ?_
    refine wp_ret ?_
    refine r_then ?_
    refine e_r1 Try.results88 (rv_t rfl) ?_
    exact ⟨_, rfl, false, rfl, ⟨fun h => absurd h (by simp), fun ⟨h1, h2, h3, h4⟩ => by
     have h2' : 0 ≤ fn := h2
     have h3' : fn < n := h3
     have h1' : kMay c.c.k := h1
     first | (exact absurd h1' (by assumption)) | omega⟩, H11.below⟩
   ·
    refine wp_skip ?_
    refine n_then ?_
    refine c_seq ?_
    have hkm : kMay c.c.k := by first | assumption | exact Decidable.not_not.1 (by assumption)
    obtain ⟨m, rfl⟩ : ∃ m : Nat, n = (m : Int) := ⟨n.toNat, by omega⟩
    obtain ⟨i, rfl⟩ : ∃ m : Nat, fn = (m : Int) := ⟨fn.toNat, by omega⟩
    refine drawS (.step 0 0 (.step 0 1 (.step 0 2 (.step 0 3 (.step 0 4 (.step 0 6 (.step 0 7 (.alt 5 (.alt 8 (.step 0 9 (.step 0 10 (.step 0 11 (.step 1 12 (.step 1 13 (.step 0 14 .nil)))))) (.alt 12 (.step 1 8 (.step 0 9 (.step 0 10 (.step 0 11 (.step 1 13 (.step 0 14 .nil)))))) .stop)) (.alt 12 (.step 1 5 (.step 1 8 (.step 0 9 (.step 0 10 (.step 0 11 (.step 1 13 (.step 0 14 .nil))))))) .stop))))))))) mixed H11 (by kernel_rfl) (by kernel_rfl) (by kernel_rfl) ?_
    intro w13 H14
    by_cases hp15 : climbH m i (leafH c.c) path = none
    ·
     refine pt (v := I ((m : Nat) : Int)) rfl (fun wS HS => y_move rfl) ?_
     refine pt (v := Ad (bs g4) (0 + 0)) rfl (fun wS HS => y_fld Try.underlying74 rfl rfl sz3 (by decide) rfl) ?_
     refine pt (v := I ((i : Nat) : Int)) rfl (fun wS HS => y_load sc3 rfl (HS.cell 0 rfl rfl)) ?_
     refine pt (v := Ad (bs g4) (0 + 1)) rfl (fun wS HS => y_fld Try.underlying74 rfl rfl sz48 (by decide) rfl) ?_
     refine pt (v := .agg ([I c.c.k, .string (bst c.c.key), c.v]).toArray) rfl (fun wS HS => y_loadA (us := [I (c.c.k), .string (bst c.c.key), c.v]) ag48 sz48 rfl rfl (fun j u hu => (HS.cell 0 rfl (mid_get (us := [I (c.c.k), .string (bst c.c.key), c.v]) rfl hu)))) ?_
     refine pt (v := Ad (bs g4) (0 + 4)) rfl (fun wS HS => y_fld Try.underlying74 rfl rfl sz72 (by decide) rfl) ?_
     refine pt (v := pv) rfl (fun wS HS => y_load sc72 rfl (HS.cell 0 rfl rfl)) ?_
     refine al rfl (ow_call fn123 rfl (leaf_c c _ (CR.st hC H14).nil) ⟨rfl, trivial⟩) ?_ ?_
     ·
      rintro _ w16 ⟨rfl, hB17⟩
      have H18 : St w _ [_, _] w16 := H14.call hB17
      refine ⟨H18, ?_⟩
      refine al rfl (ow_call fn122 rfl (climb_none m i (leafH c.c) pv path _ (leafH_len c.c) (by omega) (by omega) (by omega) ((hP.st H18)).nil hhp (by omega) hp15) ⟨rfl, rfl, rfl, rfl, trivial⟩) ?_ ?_
      ·
       rintro _ w19 ⟨x21, rfl, hx22, hB20⟩
       have H23 : St w _ [_, _] w19 := H18.call hB20
       refine ⟨H23, ?_⟩
       refine pt (v := .tuple #[.agg (x21.map B8).toArray, .bool (false)]) rfl (fun wS HS => y_move rfl) ?_
       refine pt (v := .agg (x21.map B8).toArray) rfl (fun wS HS => y_extract (i := 0) rfl rfl) ?_
       refine pt (v := .bool (false)) rfl (fun wS HS => y_extract (i := 1) rfl rfl) ?_
       refine pl rfl (ow_alloc (l := (List.replicate 32 0).map B8) H23 zr26 (by simp [Value.cells])) ?_
       rintro _ w25 ⟨g24, rfl, H26⟩
       have H27 : St w _ [_, _, _] w25 := H26.foc 2 rfl rfl
       have H28 : St w _ [_, _, _] w25 := H27.foc 2 rfl rfl
       have H29 : St w _ [_, _] w25 := H28.take 2 rfl
       refine ⟨H29, ?_⟩
       refine p0 rfl (ow_storeW (us := (x21).map B8) H26 sz26 ((List.length_map _).trans hx22) rfl rfl (map_one (F := B8) (fun _ => rfl) _) ((List.length_map _).trans List.length_replicate)) ?_
       rintro _ w30 H31'
       have H31 : St w _ [[(g24, Rw 26 ((x21).map B8))], _, _] w30 := H31'
       have H32 : St w _ [_, _, _] w30 := H31.foc 2 rfl rfl
       have H33 : St w _ [_, _, _] w30 := H32.foc 2 rfl rfl
       have H34 : St w _ [_, _] w30 := H33.take 2 rfl
       refine ⟨H34, ?_⟩
       refine pt (v := .bool (false)) rfl (fun wS HS => y_assign rfl) ?_
       refine p_nil ?_
       refine n_then ?_
       refine c_seq ?_
       refine drawS (.step 0 0 (.step 0 1 (.step 0 2 (.step 0 3 (.step 0 4 (.step 0 5 (.step 0 6 (.step 0 7 (.step 2 8 .nil))))))))) mixed H31 (by kernel_rfl) (by kernel_rfl) (by kernel_rfl) ?_
       intro w37 H38
       refine pt (v := .bool (false)) rfl (fun wS HS => y_move rfl) ?_
       refine pt (v := .bool (false)) rfl (fun wS HS => y_move rfl) ?_
       refine gpno (t := false) (b := true) rfl (gv_of (t := 38) rfl rfl rfl) (rfl) ?_
       refine gpno (t := false) (b := true) rfl (gv_of (t := 38) rfl rfl rfl) (rfl) ?_
       refine gpno (t := false) (b := true) rfl (gv_of (t := 38) rfl rfl rfl) (rfl) ?_
       refine gpno (t := false) (b := true) rfl (gv_of (t := 38) rfl rfl rfl) (rfl) ?_
       refine gpno (t := false) (b := true) rfl (gv_of (t := 38) rfl rfl rfl) (rfl) ?_
       refine pt (v := .bool (false)) rfl (fun wS HS => y_pickF (v := .bool (false)) rfl (rfl) rfl) ?_
       refine tly (v := .bool (false)) rfl (y_assign rfl) ?_
       refine p_nil ?_
       refine n_then ?_
       refine wp_ret ?_
       refine e_r1 Try.results88 (rv_t rfl) ?_
       exact ⟨_, rfl, false, rfl, ⟨fun h => absurd h (by simp), fun ⟨h1, h2, h3, t, h4, h5⟩ => by
        have h4' : climbH m i (leafH c.c) path = some t := h4
        rw [hp15] at h4'; cases h4'⟩, H38.below⟩
      refine al rfl (ow_alloc (l := (List.replicate 32 0).map B8) H18 zr26 (by simp [Value.cells])) ?_ ?_
      ·
       rintro _ w40 ⟨g39, rfl, H41⟩
       have H42 : St w _ [_, _, _] w40 := H41.foc 2 rfl rfl
       have H43 : St w _ [_, _, _] w40 := H42.foc 2 rfl rfl
       have H44 : St w _ [_, _] w40 := H43.take 2 rfl
       refine ⟨H44, ?_⟩
       refine pl rfl (ow_call fn122 rfl (climb_none m i (leafH c.c) pv path _ (leafH_len c.c) (by omega) (by omega) (by omega) ((hP.st H41)).nil hhp (by omega) hp15) ⟨rfl, rfl, rfl, rfl, trivial⟩) ?_
       rintro _ w45 ⟨x47, rfl, hx48, hB46⟩
       have H49 : St w _ [_, _, _] w45 := H41.call hB46
       have H50 : St w _ [_, _, _] w45 := H49.foc 2 rfl rfl
       have H51 : St w _ [_, _, _] w45 := H50.foc 2 rfl rfl
       have H52 : St w _ [_, _] w45 := H51.take 2 rfl
       refine ⟨H52, ?_⟩
       refine pt (v := .tuple #[.agg (x47.map B8).toArray, .bool (false)]) rfl (fun wS HS => y_move rfl) ?_
       refine pt (v := .agg (x47.map B8).toArray) rfl (fun wS HS => y_extract (i := 0) rfl rfl) ?_
       refine pt (v := .bool (false)) rfl (fun wS HS => y_extract (i := 1) rfl rfl) ?_
       refine p0 rfl (ow_storeW (us := (x47).map B8) H49 sz26 ((List.length_map _).trans hx48) rfl rfl (map_one (F := B8) (fun _ => rfl) _) ((List.length_map _).trans List.length_replicate)) ?_
       rintro _ w53 H54'
       have H54 : St w _ [[(g39, Rw 26 ((x47).map B8))], _, _] w53 := H54'
       have H55 : St w _ [_, _, _] w53 := H54.foc 2 rfl rfl
       have H56 : St w _ [_, _, _] w53 := H55.foc 2 rfl rfl
       have H57 : St w _ [_, _] w53 := H56.take 2 rfl
       refine ⟨H57, ?_⟩
       refine pt (v := .bool (false)) rfl (fun wS HS => y_assign rfl) ?_
       refine p_nil ?_
       refine n_then ?_
       refine c_seq ?_
       refine drawS (.step 0 0 (.step 0 1 (.step 0 2 (.step 0 3 (.step 0 4 (.step 0 5 (.step 0 6 (.step 0 7 (.step 2 8 .nil))))))))) mixed H54 (by kernel_rfl) (by kernel_rfl) (by kernel_rfl) ?_
       intro w60 H61
       refine pt (v := .bool (false)) rfl (fun wS HS => y_move rfl) ?_
       refine pt (v := .bool (false)) rfl (fun wS HS => y_move rfl) ?_
       refine gpno (t := false) (b := true) rfl (gv_of (t := 38) rfl rfl rfl) (rfl) ?_
       refine gpno (t := false) (b := true) rfl (gv_of (t := 38) rfl rfl rfl) (rfl) ?_
       refine gpno (t := false) (b := true) rfl (gv_of (t := 38) rfl rfl rfl) (rfl) ?_
       refine gpno (t := false) (b := true) rfl (gv_of (t := 38) rfl rfl rfl) (rfl) ?_
       refine gpno (t := false) (b := true) rfl (gv_of (t := 38) rfl rfl rfl) (rfl) ?_
       refine pt (v := .bool (false)) rfl (fun wS HS => y_pickF (v := .bool (false)) rfl (rfl) rfl) ?_
       refine tly (v := .bool (false)) rfl (y_assign rfl) ?_
       refine p_nil ?_
       refine n_then ?_
       refine wp_ret ?_
       refine e_r1 Try.results88 (rv_t rfl) ?_
       exact ⟨_, rfl, false, rfl, ⟨fun h => absurd h (by simp), fun ⟨h1, h2, h3, t, h4, h5⟩ => by
        have h4' : climbH m i (leafH c.c) path = some t := h4
        rw [hp15] at h4'; cases h4'⟩, H61.below⟩
      exact a_stop
     refine al rfl (ow_alloc (l := (List.replicate 32 0).map B8) H14 zr26 (by simp [Value.cells])) ?_ ?_
     ·
      rintro _ w63 ⟨g62, rfl, H64⟩
      have H65 : St w _ [_, _, _] w63 := H64.foc 2 rfl rfl
      have H66 : St w _ [_, _, _] w63 := H65.foc 2 rfl rfl
      have H67 : St w _ [_, _] w63 := H66.take 2 rfl
      refine ⟨H67, ?_⟩
      refine pl rfl (ow_call fn123 rfl (leaf_c c _ (CR.st hC H64).nil) ⟨rfl, trivial⟩) ?_
      rintro _ w68 ⟨rfl, hB69⟩
      have H70 : St w _ [_, _, _] w68 := H64.call hB69
      have H71 : St w _ [_, _, _] w68 := H70.foc 2 rfl rfl
      have H72 : St w _ [_, _, _] w68 := H71.foc 2 rfl rfl
      have H73 : St w _ [_, _] w68 := H72.take 2 rfl
      refine ⟨H73, ?_⟩
      refine pl rfl (ow_call fn122 rfl (climb_none m i (leafH c.c) pv path _ (leafH_len c.c) (by omega) (by omega) (by omega) ((hP.st H70)).nil hhp (by omega) hp15) ⟨rfl, rfl, rfl, rfl, trivial⟩) ?_
      rintro _ w74 ⟨x76, rfl, hx77, hB75⟩
      have H78 : St w _ [_, _, _] w74 := H70.call hB75
      have H79 : St w _ [_, _, _] w74 := H78.foc 2 rfl rfl
      have H80 : St w _ [_, _, _] w74 := H79.foc 2 rfl rfl
      have H81 : St w _ [_, _] w74 := H80.take 2 rfl
      refine ⟨H81, ?_⟩
      refine pt (v := .tuple #[.agg (x76.map B8).toArray, .bool (false)]) rfl (fun wS HS => y_move rfl) ?_
      refine pt (v := .agg (x76.map B8).toArray) rfl (fun wS HS => y_extract (i := 0) rfl rfl) ?_
      refine pt (v := .bool (false)) rfl (fun wS HS => y_extract (i := 1) rfl rfl) ?_
      refine p0 rfl (ow_storeW (us := (x76).map B8) H78 sz26 ((List.length_map _).trans hx77) rfl rfl (map_one (F := B8) (fun _ => rfl) _) ((List.length_map _).trans List.length_replicate)) ?_
      rintro _ w82 H83'
      have H83 : St w _ [[(g62, Rw 26 ((x76).map B8))], _, _] w82 := H83'
      have H84 : St w _ [_, _, _] w82 := H83.foc 2 rfl rfl
      have H85 : St w _ [_, _, _] w82 := H84.foc 2 rfl rfl
      have H86 : St w _ [_, _] w82 := H85.take 2 rfl
      refine ⟨H86, ?_⟩
      refine pt (v := .bool (false)) rfl (fun wS HS => y_assign rfl) ?_
      refine p_nil ?_
      refine n_then ?_
      refine c_seq ?_
      refine drawS (.step 0 0 (.step 0 1 (.step 0 2 (.step 0 3 (.step 0 4 (.step 0 5 (.step 0 6 (.step 0 7 (.step 2 8 .nil))))))))) mixed H83 (by kernel_rfl) (by kernel_rfl) (by kernel_rfl) ?_
      intro w89 H90
      refine pt (v := .bool (false)) rfl (fun wS HS => y_move rfl) ?_
      refine pt (v := .bool (false)) rfl (fun wS HS => y_move rfl) ?_
      refine gpno (t := false) (b := true) rfl (gv_of (t := 38) rfl rfl rfl) (rfl) ?_
      refine gpno (t := false) (b := true) rfl (gv_of (t := 38) rfl rfl rfl) (rfl) ?_
      refine gpno (t := false) (b := true) rfl (gv_of (t := 38) rfl rfl rfl) (rfl) ?_
      refine gpno (t := false) (b := true) rfl (gv_of (t := 38) rfl rfl rfl) (rfl) ?_
      refine gpno (t := false) (b := true) rfl (gv_of (t := 38) rfl rfl rfl) (rfl) ?_
      refine pt (v := .bool (false)) rfl (fun wS HS => y_pickF (v := .bool (false)) rfl (rfl) rfl) ?_
      refine tly (v := .bool (false)) rfl (y_assign rfl) ?_
      refine p_nil ?_
      refine n_then ?_
      refine wp_ret ?_
      refine e_r1 Try.results88 (rv_t rfl) ?_
      exact ⟨_, rfl, false, rfl, ⟨fun h => absurd h (by simp), fun ⟨h1, h2, h3, t, h4, h5⟩ => by
       have h4' : climbH m i (leafH c.c) path = some t := h4
       rw [hp15] at h4'; cases h4'⟩, H90.below⟩
     exact a_stop
    ·
     refine pt (v := I ((m : Nat) : Int)) rfl (fun wS HS => y_move rfl) ?_
     refine pt (v := Ad (bs g4) (0 + 0)) rfl (fun wS HS => y_fld Try.underlying74 rfl rfl sz3 (by decide) rfl) ?_
     refine pt (v := I ((i : Nat) : Int)) rfl (fun wS HS => y_load sc3 rfl (HS.cell 0 rfl rfl)) ?_
     refine pt (v := Ad (bs g4) (0 + 1)) rfl (fun wS HS => y_fld Try.underlying74 rfl rfl sz48 (by decide) rfl) ?_
     refine pt (v := .agg ([I c.c.k, .string (bst c.c.key), c.v]).toArray) rfl (fun wS HS => y_loadA (us := [I (c.c.k), .string (bst c.c.key), c.v]) ag48 sz48 rfl rfl (fun j u hu => (HS.cell 0 rfl (mid_get (us := [I (c.c.k), .string (bst c.c.key), c.v]) rfl hu)))) ?_
     refine pt (v := Ad (bs g4) (0 + 4)) rfl (fun wS HS => y_fld Try.underlying74 rfl rfl sz72 (by decide) rfl) ?_
     refine pt (v := pv) rfl (fun wS HS => y_load sc72 rfl (HS.cell 0 rfl rfl)) ?_
     refine al rfl (ow_call fn123 rfl (leaf_c c _ (CR.st hC H14).nil) ⟨rfl, trivial⟩) ?_ ?_
     ·
      rintro _ w91 ⟨rfl, hB92⟩
      have H93 : St w _ [_, _] w91 := H14.call hB92
      refine ⟨H93, ?_⟩
      obtain ⟨tt, htt⟩ := Option.ne_none_iff_exists'.1 hp15
      have htl := climb_len _ m i (leafH c.c) path tt (Nat.le_refl _) (leafH_len c.c) htt
      refine al rfl (ow_call fn122 rfl (climb_some m i (leafH c.c) pv path _ (leafH_len c.c) (by omega) (by omega) (by omega) ((hP.st H93)).nil hhp (by omega) htt) ⟨rfl, rfl, rfl, rfl, trivial⟩) ?_ ?_
      ·
       rintro _ w94 ⟨rfl, hB95⟩
       have H96 : St w _ [_, _] w94 := H93.call hB95
       refine ⟨H96, ?_⟩
       refine pt (v := .tuple #[.agg (tt.map B8).toArray, .bool (true)]) rfl (fun wS HS => y_move rfl) ?_
       refine pt (v := .agg (tt.map B8).toArray) rfl (fun wS HS => y_extract (i := 0) rfl rfl) ?_
       refine pt (v := .bool (true)) rfl (fun wS HS => y_extract (i := 1) rfl rfl) ?_
       refine pl rfl (ow_alloc (l := (List.replicate 32 0).map B8) H96 zr26 (by simp [Value.cells])) ?_
       rintro _ w98 ⟨g97, rfl, H99⟩
       have H100 : St w _ [_, _, _] w98 := H99.foc 2 rfl rfl
       have H101 : St w _ [_, _, _] w98 := H100.foc 2 rfl rfl
       have H102 : St w _ [_, _] w98 := H101.take 2 rfl
       refine ⟨H102, ?_⟩
       refine p0 rfl (ow_storeW (us := (tt).map B8) H99 sz26 ((List.length_map _).trans htl) rfl rfl (map_one (F := B8) (fun _ => rfl) _) ((List.length_map _).trans List.length_replicate)) ?_
       rintro _ w103 H104'
       have H104 : St w _ [[(g97, Rw 26 ((tt).map B8))], _, _] w103 := H104'
       have H105 : St w _ [_, _, _] w103 := H104.foc 2 rfl rfl
       have H106 : St w _ [_, _, _] w103 := H105.foc 2 rfl rfl
       have H107 : St w _ [_, _] w103 := H106.take 2 rfl
       refine ⟨H107, ?_⟩
       refine pt (v := .bool (true)) rfl (fun wS HS => y_assign rfl) ?_
       refine p_nil ?_
       refine n_then ?_
       refine c_seq ?_
       refine drawS (.step 0 0 (.step 0 1 (.step 0 2 (.step 0 3 (.step 0 5 (.step 1 4 (.step 0 6 (.step 0 7 (.step 2 8 .nil))))))))) mixed H104 (by kernel_rfl) (by kernel_rfl) (by kernel_rfl) ?_
       intro w108 H109
       refine pt (v := .bool (true)) rfl (fun wS HS => y_move rfl) ?_
       refine pt (v := .bool (true)) rfl (fun wS HS => y_move rfl) ?_
       refine gpt (v := I ((m : Nat) : Int)) rfl (gv_of (t := 38) rfl rfl rfl) (rfl) (fun wS HS => y_move rfl) ?_
       refine gpt (v := .slice (some (bs g97)) 32 32) rfl (gv_of (t := 38) rfl rfl rfl) (rfl) (fun wS HS => y_slA (k1 := .i64) (k2 := .i64) (l := 0) (h := 32) Try.underlying26 sz5 rfl (.inl ⟨rfl, rfl⟩) (.inl ⟨rfl, rfl⟩) (by omega) (by omega)) ?_
       refine gpt (v := .agg (root.map B8).toArray) rfl (gv_of (t := 38) rfl rfl rfl) (rfl) (fun wS HS => y_loadA (us := (root).map B8) ag26 sz26 ((List.length_map _).trans hr) rfl (fun j u hu => (HS.cell 2 rfl (by rw [Nat.zero_add]; exact hu)))) ?_
       refine gpl rfl (gv_of (t := 38) rfl rfl rfl) (rfl) (ow_call fn87 rfl (top_c (m) (.slice (some (bs g97)) 32 32) (tt) _ ((rd_arr H109 0 rfl htl (by unfold maxLen; omega))).nil (by first | omega | (simp only [List.length_append, List.length_cons, List.length_nil, List.length_take, List.length_drop, hmac_length, sha_length, List.length_replicate]; omega)) (by omega)) ⟨rfl, rfl, trivial⟩) ?_
       rintro _ w110 ⟨rfl, hB111⟩
       have H112 : St w _ [_, _, _] w110 := H109.call hB111
       refine ⟨H112, ?_⟩
       refine gpt (v := .bool (decide ((topH m tt) = root))) rfl (gv_of (t := 38) rfl rfl rfl) (rfl) (fun wS HS => y_eqlArr (l1 := topH m tt) (l2 := root) Try.underlying26 sz5 sc5 Try.underlying5 gt26 (topH_len m tt) hr rfl rfl) ?_
       refine pt (v := .bool (decide ((topH m tt) = root))) rfl (fun wS HS => y_pickT rfl (rfl) rfl) ?_
       refine tly (v := .bool (decide ((topH m tt) = root))) rfl (y_assign rfl) ?_
       refine p_nil ?_
       refine n_then ?_
       refine wp_ret ?_
       refine e_r1 Try.results88 (rv_t rfl) ?_
       exact ⟨_, rfl, _, rfl, (decide_eq_true_iff.trans ⟨(fun h => ⟨hkm, (by show (0 : Int) ≤ (i : Int); omega), (by show (i : Int) < (m : Int); omega), tt, htt, h⟩), (fun ⟨h1, h2, h3, t, h4, h5⟩ => by
        have h4' : climbH m i (leafH c.c) path = some t := h4
        rw [htt] at h4'
        obtain rfl := Option.some.inj h4'
        exact h5)⟩), H112.below⟩
      refine al rfl (ow_alloc (l := (List.replicate 32 0).map B8) H93 zr26 (by simp [Value.cells])) ?_ ?_
      ·
       rintro _ w114 ⟨g113, rfl, H115⟩
       have H116 : St w _ [_, _, _] w114 := H115.foc 2 rfl rfl
       have H117 : St w _ [_, _, _] w114 := H116.foc 2 rfl rfl
       have H118 : St w _ [_, _] w114 := H117.take 2 rfl
       refine ⟨H118, ?_⟩
       obtain ⟨tt, htt⟩ := Option.ne_none_iff_exists'.1 hp15
       have htl := climb_len _ m i (leafH c.c) path tt (Nat.le_refl _) (leafH_len c.c) htt
       refine pl rfl (ow_call fn122 rfl (climb_some m i (leafH c.c) pv path _ (leafH_len c.c) (by omega) (by omega) (by omega) ((hP.st H115)).nil hhp (by omega) htt) ⟨rfl, rfl, rfl, rfl, trivial⟩) ?_
       rintro _ w119 ⟨rfl, hB120⟩
       have H121 : St w _ [_, _, _] w119 := H115.call hB120
       have H122 : St w _ [_, _, _] w119 := H121.foc 2 rfl rfl
       have H123 : St w _ [_, _, _] w119 := H122.foc 2 rfl rfl
       have H124 : St w _ [_, _] w119 := H123.take 2 rfl
       refine ⟨H124, ?_⟩
       refine pt (v := .tuple #[.agg (tt.map B8).toArray, .bool (true)]) rfl (fun wS HS => y_move rfl) ?_
       refine pt (v := .agg (tt.map B8).toArray) rfl (fun wS HS => y_extract (i := 0) rfl rfl) ?_
       refine pt (v := .bool (true)) rfl (fun wS HS => y_extract (i := 1) rfl rfl) ?_
       refine p0 rfl (ow_storeW (us := (tt).map B8) H121 sz26 ((List.length_map _).trans htl) rfl rfl (map_one (F := B8) (fun _ => rfl) _) ((List.length_map _).trans List.length_replicate)) ?_
       rintro _ w125 H126'
       have H126 : St w _ [[(g113, Rw 26 ((tt).map B8))], _, _] w125 := H126'
       have H127 : St w _ [_, _, _] w125 := H126.foc 2 rfl rfl
       have H128 : St w _ [_, _, _] w125 := H127.foc 2 rfl rfl
       have H129 : St w _ [_, _] w125 := H128.take 2 rfl
       refine ⟨H129, ?_⟩
       refine pt (v := .bool (true)) rfl (fun wS HS => y_assign rfl) ?_
       refine p_nil ?_
       refine n_then ?_
       refine c_seq ?_
       refine drawS (.step 0 0 (.step 0 1 (.step 0 2 (.step 0 3 (.step 0 5 (.step 1 4 (.step 0 6 (.step 0 7 (.step 2 8 .nil))))))))) mixed H126 (by kernel_rfl) (by kernel_rfl) (by kernel_rfl) ?_
       intro w130 H131
       refine pt (v := .bool (true)) rfl (fun wS HS => y_move rfl) ?_
       refine pt (v := .bool (true)) rfl (fun wS HS => y_move rfl) ?_
       refine gpt (v := I ((m : Nat) : Int)) rfl (gv_of (t := 38) rfl rfl rfl) (rfl) (fun wS HS => y_move rfl) ?_
       refine gpt (v := .slice (some (bs g113)) 32 32) rfl (gv_of (t := 38) rfl rfl rfl) (rfl) (fun wS HS => y_slA (k1 := .i64) (k2 := .i64) (l := 0) (h := 32) Try.underlying26 sz5 rfl (.inl ⟨rfl, rfl⟩) (.inl ⟨rfl, rfl⟩) (by omega) (by omega)) ?_
       refine gpt (v := .agg (root.map B8).toArray) rfl (gv_of (t := 38) rfl rfl rfl) (rfl) (fun wS HS => y_loadA (us := (root).map B8) ag26 sz26 ((List.length_map _).trans hr) rfl (fun j u hu => (HS.cell 2 rfl (by rw [Nat.zero_add]; exact hu)))) ?_
       refine gpl rfl (gv_of (t := 38) rfl rfl rfl) (rfl) (ow_call fn87 rfl (top_c (m) (.slice (some (bs g113)) 32 32) (tt) _ ((rd_arr H131 0 rfl htl (by unfold maxLen; omega))).nil (by first | omega | (simp only [List.length_append, List.length_cons, List.length_nil, List.length_take, List.length_drop, hmac_length, sha_length, List.length_replicate]; omega)) (by omega)) ⟨rfl, rfl, trivial⟩) ?_
       rintro _ w132 ⟨rfl, hB133⟩
       have H134 : St w _ [_, _, _] w132 := H131.call hB133
       refine ⟨H134, ?_⟩
       refine gpt (v := .bool (decide ((topH m tt) = root))) rfl (gv_of (t := 38) rfl rfl rfl) (rfl) (fun wS HS => y_eqlArr (l1 := topH m tt) (l2 := root) Try.underlying26 sz5 sc5 Try.underlying5 gt26 (topH_len m tt) hr rfl rfl) ?_
       refine pt (v := .bool (decide ((topH m tt) = root))) rfl (fun wS HS => y_pickT rfl (rfl) rfl) ?_
       refine tly (v := .bool (decide ((topH m tt) = root))) rfl (y_assign rfl) ?_
       refine p_nil ?_
       refine n_then ?_
       refine wp_ret ?_
       refine e_r1 Try.results88 (rv_t rfl) ?_
       exact ⟨_, rfl, _, rfl, (decide_eq_true_iff.trans ⟨(fun h => ⟨hkm, (by show (0 : Int) ≤ (i : Int); omega), (by show (i : Int) < (m : Int); omega), tt, htt, h⟩), (fun ⟨h1, h2, h3, t, h4, h5⟩ => by
        have h4' : climbH m i (leafH c.c) path = some t := h4
        rw [htt] at h4'
        obtain rfl := Option.some.inj h4'
        exact h5)⟩), H134.below⟩
      exact a_stop
     refine al rfl (ow_alloc (l := (List.replicate 32 0).map B8) H14 zr26 (by simp [Value.cells])) ?_ ?_
     ·
      rintro _ w136 ⟨g135, rfl, H137⟩
      have H138 : St w _ [_, _, _] w136 := H137.foc 2 rfl rfl
      have H139 : St w _ [_, _, _] w136 := H138.foc 2 rfl rfl
      have H140 : St w _ [_, _] w136 := H139.take 2 rfl
      refine ⟨H140, ?_⟩
      refine pl rfl (ow_call fn123 rfl (leaf_c c _ (CR.st hC H137).nil) ⟨rfl, trivial⟩) ?_
      rintro _ w141 ⟨rfl, hB142⟩
      have H143 : St w _ [_, _, _] w141 := H137.call hB142
      have H144 : St w _ [_, _, _] w141 := H143.foc 2 rfl rfl
      have H145 : St w _ [_, _, _] w141 := H144.foc 2 rfl rfl
      have H146 : St w _ [_, _] w141 := H145.take 2 rfl
      refine ⟨H146, ?_⟩
      obtain ⟨tt, htt⟩ := Option.ne_none_iff_exists'.1 hp15
      have htl := climb_len _ m i (leafH c.c) path tt (Nat.le_refl _) (leafH_len c.c) htt
      refine pl rfl (ow_call fn122 rfl (climb_some m i (leafH c.c) pv path _ (leafH_len c.c) (by omega) (by omega) (by omega) ((hP.st H143)).nil hhp (by omega) htt) ⟨rfl, rfl, rfl, rfl, trivial⟩) ?_
      rintro _ w147 ⟨rfl, hB148⟩
      have H149 : St w _ [_, _, _] w147 := H143.call hB148
      have H150 : St w _ [_, _, _] w147 := H149.foc 2 rfl rfl
      have H151 : St w _ [_, _, _] w147 := H150.foc 2 rfl rfl
      have H152 : St w _ [_, _] w147 := H151.take 2 rfl
      refine ⟨H152, ?_⟩
      refine pt (v := .tuple #[.agg (tt.map B8).toArray, .bool (true)]) rfl (fun wS HS => y_move rfl) ?_
      refine pt (v := .agg (tt.map B8).toArray) rfl (fun wS HS => y_extract (i := 0) rfl rfl) ?_
      refine pt (v := .bool (true)) rfl (fun wS HS => y_extract (i := 1) rfl rfl) ?_
      refine p0 rfl (ow_storeW (us := (tt).map B8) H149 sz26 ((List.length_map _).trans htl) rfl rfl (map_one (F := B8) (fun _ => rfl) _) ((List.length_map _).trans List.length_replicate)) ?_
      rintro _ w153 H154'
      have H154 : St w _ [[(g135, Rw 26 ((tt).map B8))], _, _] w153 := H154'
      have H155 : St w _ [_, _, _] w153 := H154.foc 2 rfl rfl
      have H156 : St w _ [_, _, _] w153 := H155.foc 2 rfl rfl
      have H157 : St w _ [_, _] w153 := H156.take 2 rfl
      refine ⟨H157, ?_⟩
      refine pt (v := .bool (true)) rfl (fun wS HS => y_assign rfl) ?_
      refine p_nil ?_
      refine n_then ?_
      refine c_seq ?_
      refine drawS (.step 0 0 (.step 0 1 (.step 0 2 (.step 0 3 (.step 0 5 (.step 1 4 (.step 0 6 (.step 0 7 (.step 2 8 .nil))))))))) mixed H154 (by kernel_rfl) (by kernel_rfl) (by kernel_rfl) ?_
      intro w158 H159
      refine pt (v := .bool (true)) rfl (fun wS HS => y_move rfl) ?_
      refine pt (v := .bool (true)) rfl (fun wS HS => y_move rfl) ?_
      refine gpt (v := I ((m : Nat) : Int)) rfl (gv_of (t := 38) rfl rfl rfl) (rfl) (fun wS HS => y_move rfl) ?_
      refine gpt (v := .slice (some (bs g135)) 32 32) rfl (gv_of (t := 38) rfl rfl rfl) (rfl) (fun wS HS => y_slA (k1 := .i64) (k2 := .i64) (l := 0) (h := 32) Try.underlying26 sz5 rfl (.inl ⟨rfl, rfl⟩) (.inl ⟨rfl, rfl⟩) (by omega) (by omega)) ?_
      refine gpt (v := .agg (root.map B8).toArray) rfl (gv_of (t := 38) rfl rfl rfl) (rfl) (fun wS HS => y_loadA (us := (root).map B8) ag26 sz26 ((List.length_map _).trans hr) rfl (fun j u hu => (HS.cell 2 rfl (by rw [Nat.zero_add]; exact hu)))) ?_
      refine gpl rfl (gv_of (t := 38) rfl rfl rfl) (rfl) (ow_call fn87 rfl (top_c (m) (.slice (some (bs g135)) 32 32) (tt) _ ((rd_arr H159 0 rfl htl (by unfold maxLen; omega))).nil (by first | omega | (simp only [List.length_append, List.length_cons, List.length_nil, List.length_take, List.length_drop, hmac_length, sha_length, List.length_replicate]; omega)) (by omega)) ⟨rfl, rfl, trivial⟩) ?_
      rintro _ w160 ⟨rfl, hB161⟩
      have H162 : St w _ [_, _, _] w160 := H159.call hB161
      refine ⟨H162, ?_⟩
      refine gpt (v := .bool (decide ((topH m tt) = root))) rfl (gv_of (t := 38) rfl rfl rfl) (rfl) (fun wS HS => y_eqlArr (l1 := topH m tt) (l2 := root) Try.underlying26 sz5 sc5 Try.underlying5 gt26 (topH_len m tt) hr rfl rfl) ?_
      refine pt (v := .bool (decide ((topH m tt) = root))) rfl (fun wS HS => y_pickT rfl (rfl) rfl) ?_
      refine tly (v := .bool (decide ((topH m tt) = root))) rfl (y_assign rfl) ?_
      refine p_nil ?_
      refine n_then ?_
      refine wp_ret ?_
      refine e_r1 Try.results88 (rv_t rfl) ?_
      exact ⟨_, rfl, _, rfl, (decide_eq_true_iff.trans ⟨(fun h => ⟨hkm, (by show (0 : Int) ≤ (i : Int); omega), (by show (i : Int) < (m : Int); omega), tt, htt, h⟩), (fun ⟨h1, h2, h3, t, h4, h5⟩ => by
       have h4' : climbH m i (leafH c.c) path = some t := h4
       rw [htt] at h4'
       obtain rfl := Option.some.inj h4'
       exact h5)⟩), H162.below⟩
     exact a_stop

end Go.Proofs.Ytdcmbcjkdhdohaa
