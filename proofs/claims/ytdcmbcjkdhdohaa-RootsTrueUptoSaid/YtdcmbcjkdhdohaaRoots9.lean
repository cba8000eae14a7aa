/- Walks: climb, right, says (pleachref19). -/
import Derived.Test.YtdcmbcjkdhdohaaRoots8
namespace Go.Proofs.Ytdcmbcjkdhdohaa
open Go Go.RowKit
set_option linter.unusedSimpArgs false
set_option linter.unusedVariables false
attribute [local irreducible] wpList wpP Code.wp

theorem cr_len : ∀ (m n i : Nat) (h : List UInt8) (path : List (List UInt8)), path.length ≤ m → (climbR n i h path).length ≤ path.length
  | m, n, i, h, path, hm => by
    by_cases hn : n = 1
    · by_cases hp : path.length = 0
      · rw [cr_one hn hp]; simp
      · rw [cr_none (ch_one' hn hp)]; simp
    · by_cases hp : path.length = 0
      · rw [cr_none (ch_nil hn hp)]; simp
      · match m with
        | 0 => omega
        | m + 1 =>
          by_cases hi : i < half n
          · cases hx : climbH (half n) i h (restP path) with
            | none => rw [cr_none (by rw [ch_l hn hp hi, hx]; rfl)]; simp
            | some x =>
              have := cr_len m (half n) i h (restP path) (by rw [List.length_take]; omega)
              rw [List.length_take] at this
              rw [cr_l hn hp hi hx, List.length_append, List.length_singleton]; omega
          · cases hx : climbH (n - half n) (i - half n) h (restP path) with
            | none => rw [cr_none (by rw [ch_r hn hp hi, hx]; rfl)]; simp
            | some x =>
              have := cr_len m (n - half n) (i - half n) h (restP path) (by rw [List.length_take]; omega)
              rw [List.length_take] at this
              rw [cr_r hn hp hi hx, List.length_append, List.length_singleton]; omega
def RClimbC (path : List (List UInt8)) : Prop := ∀ (g : Nat) (rows : List (List UInt8)) (EB : Part) (n i : Nat) (h : List UInt8) (pv : Value) (w : World), BkP g rows EB → (∀ p ∈ EB, w.heap[p.1]? = some p.2) → h.length = 32 → 0 < n → i < n → n ≤ 9223372036854775807 → Rd (EB.map (·.1)) w 32 pv path.length (path.flatten.map B8) → H32 path → rows.length + path.length ≤ 4398046511104 →
  Calls Try.prog 153 (([Ad (bs g) 0, I ((n : Nat) : Int), I ((i : Nat) : Int), .agg (h.map B8).toArray, pv] : List Value).toArray) w (fun e w' => ∃ v, e = .returned v ∧ ∃ x : List UInt8, v = .tuple #[.agg (x.map B8).toArray, .bool (climbH n i h path).isSome] ∧ x.length = 32 ∧ (∀ y, climbH n i h path = some y → x = y) ∧ ∃ EB', BkP g (rows ++ climbR n i h path) EB' ∧ St w (EB.map (·.1)) [EB'] w')
theorem rc_some {path : List (List UInt8)} (hc : RClimbC path) (g : Nat) (rows : List (List UInt8)) (EB : Part) (n i : Nat) (h : List UInt8) (pv : Value) (w : World) (hB : BkP g rows EB) (hown : ∀ p ∈ EB, w.heap[p.1]? = some p.2) (hh : h.length = 32) (hn0 : 0 < n) (hin : i < n) (hn : n ≤ 9223372036854775807) (hP : Rd (EB.map (·.1)) w 32 pv path.length (path.flatten.map B8)) (hhp : H32 path) (hrb : rows.length + path.length ≤ 4398046511104) {t : List UInt8} (ht : climbH n i h path = some t) :
    Calls Try.prog 153 (([Ad (bs g) 0, I ((n : Nat) : Int), I ((i : Nat) : Int), .agg (h.map B8).toArray, pv] : List Value).toArray) w (fun e w' => ∃ v, e = .returned v ∧ v = .tuple #[.agg (t.map B8).toArray, .bool true] ∧ ∃ EB', BkP g (rows ++ climbR n i h path) EB' ∧ St w (EB.map (·.1)) [EB'] w') :=
  (hc g rows EB n i h pv w hB hown hh hn0 hin hn hP hhp hrb).mono fun e w' ⟨v, he, x, hv, hl, hy, E, hE, hS⟩ => ⟨v, he, by rw [hv, ht, hy t ht]; rfl, E, hE, hS⟩
theorem rc_none {path : List (List UInt8)} (hc : RClimbC path) (g : Nat) (rows : List (List UInt8)) (EB : Part) (n i : Nat) (h : List UInt8) (pv : Value) (w : World) (hB : BkP g rows EB) (hown : ∀ p ∈ EB, w.heap[p.1]? = some p.2) (hh : h.length = 32) (hn0 : 0 < n) (hin : i < n) (hn : n ≤ 9223372036854775807) (hP : Rd (EB.map (·.1)) w 32 pv path.length (path.flatten.map B8)) (hhp : H32 path) (hrb : rows.length + path.length ≤ 4398046511104) (ht : climbH n i h path = none) :
    Calls Try.prog 153 (([Ad (bs g) 0, I ((n : Nat) : Int), I ((i : Nat) : Int), .agg (h.map B8).toArray, pv] : List Value).toArray) w (fun e w' => ∃ v, e = .returned v ∧ ∃ x : List UInt8, v = .tuple #[.agg (x.map B8).toArray, .bool false] ∧ x.length = 32 ∧ ∃ EB', BkP g rows EB' ∧ St w (EB.map (·.1)) [EB'] w') :=
  (hc g rows EB n i h pv w hB hown hh hn0 hin hn hP hhp hrb).mono fun e w' ⟨v, he, x, hv, hl, hy, E, hE, hS⟩ => ⟨v, he, x, by rw [hv, ht]; rfl, hl, E, by rw [cr_none ht, List.append_nil] at hE; exact hE, hS⟩
/-- The rows that a leaf lays. -/
def leafR (n : Int) (f : Le) : List (List UInt8) :=
  if kMay f.c.k ∧ 0 ≤ f.n ∧ f.n < n then
    (match climbH n.toNat f.n.toNat (leafH f.c) f.path with
    | none => [leafB f.c]
    | some t => [leafB f.c] ++ climbR n.toNat f.n.toNat (leafH f.c) f.path ++ [topB n.toNat t])
  else []
theorem leafR_no {n : Int} {f : Le} (h : ¬ (kMay f.c.k ∧ 0 ≤ f.n ∧ f.n < n)) : leafR n f = [] := by unfold leafR; rw [if_neg h]
theorem leafR_none {n : Int} {f : Le} (h : kMay f.c.k ∧ 0 ≤ f.n ∧ f.n < n) (hc : climbH n.toNat f.n.toNat (leafH f.c) f.path = none) : leafR n f = [leafB f.c] := by unfold leafR; rw [if_pos h, hc]
theorem leafR_some {n : Int} {f : Le} (h : kMay f.c.k ∧ 0 ≤ f.n ∧ f.n < n) {t : List UInt8} (hc : climbH n.toNat f.n.toNat (leafH f.c) f.path = some t) : leafR n f = [leafB f.c] ++ climbR n.toNat f.n.toNat (leafH f.c) f.path ++ [topB n.toNat t] := by unfold leafR; rw [if_pos h, hc]
theorem leafR_len {n : Int} {f : Le} : (leafR n f).length ≤ f.path.length + 2 := by
  unfold leafR
  split
  · have := cr_len _ n.toNat f.n.toNat (leafH f.c) f.path (Nat.le_refl _)
    split
    · simp
    · simp only [List.length_append, List.length_singleton]; omega
  · simp

attribute [local irreducible] leafH innerH topH rootH rootA sha

theorem rclimb_step (g : Nat) (rows : List (List UInt8)) (EB : Part) (n i : Nat) (h : List UInt8) (pv : Value) (path : List (List UInt8)) (w : World) (hB : BkP g rows EB) (hown : ∀ p ∈ EB, w.heap[p.1]? = some p.2) (hh : h.length = 32) (hn0 : 0 < n) (hin : i < n) (hn : n ≤ 9223372036854775807) (hP : Rd (EB.map (·.1)) w 32 pv path.length (path.flatten.map B8)) (hhp : H32 path) (IH : ∀ path' : List (List UInt8), path'.length < path.length → RClimbC path') (hrb : rows.length + path.length ≤ 4398046511104) :
    Calls Try.prog 153 (([Ad (bs g) (0), I ((n : Nat) : Int), I ((i : Nat) : Int), .agg (h.map B8).toArray, pv] : List Value).toArray) w (fun e w' => ∃ v, e = .returned v ∧ ∃ x : List UInt8, v = .tuple #[.agg (x.map B8).toArray, .bool (climbH n i h path).isSome] ∧ x.length = 32 ∧ (∀ y, climbH n i h path = some y → x = y) ∧ ∃ EB', BkP g (rows ++ climbR n i h path) EB' ∧ St w (EB.map (·.1)) [EB'] w') := by
 refine calls_mk Try.func153 rfl 81 Try.ntmps153 rfl ?_
 have H0 : St w (EB.map (·.1)) [EB] w := St.initE hown
 refine c_seq ?_
 refine c_reg ?_
 refine st (ow_box (l := (h).map B8) H0 rfl rfl) ?_
 rintro _ w2 ⟨g1, rfl, H3⟩
 refine st (ow_alloc (l := (List.replicate 32 0).map B8) H3 zr26 (by simp [Value.cells])) ?_
 rintro _ w5 ⟨g4, rfl, H6⟩
 refine sy (v := .bool (false)) (y_assign (v := .bool (false)) rfl) ?_
 refine c_nil ?_
 refine n_then ?_
 refine c_seq ?_
 refine c_seq ?_
 refine c_reg ?_
 refine sy (v := I ((n : Nat) : Int)) (y_move rfl) ?_
 refine sy (v := .bool (decide (n = 1))) (n_eql (a := n) (b := 1) rfl rfl) ?_
 refine c_nil ?_
 refine n_then ?_
 refine c_if rfl (fun hc7 => ?_) (fun hc7 => ?_)
 ·
  refine c_seq ?_
  refine c_reg ?_
  refine sy (v := .agg (h.map B8).toArray) (y_loadA (us := (h).map B8) ag26 sz26 ((List.length_map _).trans hh) rfl (fun j u hu => (H6.cell 1 rfl (by rw [Nat.zero_add]; exact hu)))) ?_
  refine sy (v := pv) (y_move rfl) ?_
  refine sy (v := I ((path.length : Nat) : Int)) (y_lenR Try.underlying72 (hP.st H6) rfl) ?_
  refine sy (v := .bool (decide (path.length = 0))) (n_eql (a := path.length) (b := 0) rfl rfl) ?_
  refine s0 (ow_storeW (us := (h).map B8) H6 sz26 ((List.length_map _).trans hh) rfl rfl (map_one (F := B8) (fun _ => rfl) _) ((List.length_map _).trans List.length_replicate)) ?_
  rintro _ w8 H9'
  have H9 : St w _ [[(g4, Rw 26 ((h).map B8))], _, _] w8 := H9'
  refine sy (v := .bool (decide (path.length = 0))) (y_assign rfl) ?_
  refine c_nil ?_
  refine n_then ?_
  refine wp_ret ?_
  refine r_then ?_
  refine e_r2 Try.results153 (rv_b H9 (i := 0) rfl ag26 sz26 ((List.length_map _).trans hh) rfl) (rv_t rfl) ?_
  have H10 : St w _ [_, _, _] w8 := H9.foc 2 rfl rfl
  have H11 : St w _ [_] w8 := H10.take 1 rfl
  have hb : decide (path.length = 0) = (climbH n i h path).isSome := by
   by_cases hp : path.length = 0
   · rw [ch_one (by omega) hp, decide_eq_true hp]; rfl
   · rw [ch_one' (by omega) hp, decide_eq_false hp]; rfl
  have hr : climbR n i h path = [] := by
   by_cases hp : path.length = 0
   · exact cr_one (by omega) hp
   · exact cr_none (ch_one' (by omega) hp)
  exact ⟨_, rfl, h, by rw [← hb]; rfl, hh, (fun y hy => by
   by_cases hp : path.length = 0
   · rw [ch_one (by omega) hp] at hy; exact Option.some.inj hy
   · rw [ch_one' (by omega) hp] at hy; cases hy), _, by rw [hr, List.append_nil]; exact hB, H11⟩
 ·
  refine wp_skip ?_
  refine n_then ?_
  refine c_seq ?_
  refine c_seq ?_
  refine c_reg ?_
  refine sy (v := pv) (y_move rfl) ?_
  refine sy (v := I ((path.length : Nat) : Int)) (y_lenR Try.underlying72 (hP.st H6) rfl) ?_
  refine sy (v := .bool (decide (path.length = 0))) (n_eql (a := path.length) (b := 0) rfl rfl) ?_
  refine c_nil ?_
  refine n_then ?_
  refine c_if rfl (fun hc12 => ?_) (fun hc12 => ?_)
  ·
   refine c_seq ?_
   refine c_reg ?_
   refine sy (v := .agg (h.map B8).toArray) (y_loadA (us := (h).map B8) ag26 sz26 ((List.length_map _).trans hh) rfl (fun j u hu => (H6.cell 1 rfl (by rw [Nat.zero_add]; exact hu)))) ?_
   refine s0 (ow_storeW (us := (h).map B8) H6 sz26 ((List.length_map _).trans hh) rfl rfl (map_one (F := B8) (fun _ => rfl) _) ((List.length_map _).trans List.length_replicate)) ?_
   rintro _ w13 H14'
   have H14 : St w _ [[(g4, Rw 26 ((h).map B8))], _, _] w13 := H14'
   refine sy (v := .bool (false)) (y_assign (v := .bool (false)) rfl) ?_
   refine c_nil ?_
   refine n_then ?_
   refine wp_ret ?_
   refine r_then ?_
   refine e_r2 Try.results153 (rv_b H14 (i := 0) rfl ag26 sz26 ((List.length_map _).trans hh) rfl) (rv_t rfl) ?_
   have H15 : St w _ [_, _, _] w13 := H14.foc 2 rfl rfl
   have H16 : St w _ [_] w13 := H15.take 1 rfl
   have hb : climbH n i h path = none := ch_nil (by omega) (by omega)
   exact ⟨_, rfl, h, by rw [hb]; rfl, hh, (fun y hy => by rw [hb] at hy; cases hy), _, by rw [cr_none hb, List.append_nil]; exact hB, H16⟩
  ·
   refine wp_skip ?_
   refine n_then ?_
   refine c_seq ?_
   refine c_reg ?_
   refine sy (v := pv) (y_move rfl) ?_
   refine sy (v := pv) (y_move rfl) ?_
   refine sy (v := I ((path.length : Nat) : Int)) (y_lenR Try.underlying72 (hP.st H6) rfl) ?_
   refine sy (v := I ((path.length - 1 : Nat) : Int)) (n_sub (a := path.length) (b := 1) rfl rfl (by omega) (by omega)) ?_
   refine sy (v := Ad (sp (pv)) ((path.length - 1) * 32)) (y_ixR (m := path.length - 1) Try.underlying72 sz26 (hP.st H6) (by decide) rfl rfl rfl (by omega)) ?_
   refine sy (v := .agg ((path.getD (path.length - 1) []).map B8).toArray) (y_loadA (us := (path.getD (path.length - 1) []).map B8) ag26 sz26 ((List.length_map _).trans (getD_len hhp (by omega))) rfl (fun j u hu => (hP.st H6).cell _ _ (flat_get hhp (by omega) hu))) ?_
   refine st (ow_alloc (l := (List.replicate 32 0).map B8) H6 zr26 (by simp [Value.cells])) ?_
   rintro _ w18 ⟨g17, rfl, H19⟩
   refine s0 (ow_storeW (us := (path.getD (path.length - 1) []).map B8) H19 sz26 ((List.length_map _).trans (getD_len hhp (by omega))) rfl rfl (map_one (F := B8) (fun _ => rfl) _) ((List.length_map _).trans List.length_replicate)) ?_
   rintro _ w20 H21'
   have H21 : St w _ [[(g17, Rw 26 ((path.getD (path.length - 1) []).map B8))], _, _, _] w20 := H21'
   refine c_nil ?_
   refine n_then ?_
   refine c_seq ?_
   refine c_reg ?_
   refine sy (v := pv) (y_move rfl) ?_
   refine sy (v := pv) (y_move rfl) ?_
   refine sy (v := I ((path.length : Nat) : Int)) (y_lenR Try.underlying72 (hP.st H21) rfl) ?_
   refine sy (v := I ((path.length - 1 : Nat) : Int)) (n_sub (a := path.length) (b := 1) rfl rfl (by omega) (by omega)) ?_
   refine sy (v := slv 32 0 (path.length - 1) pv) (y_slR (k1 := .i64) (k2 := .i64) (l := 0) (h := path.length - 1) Try.underlying72 sz26 (hP.st H21) rfl (.inl ⟨rfl, rfl⟩) (.inr ⟨_, rfl, rfl⟩) (by omega) (by omega)) ?_
   refine sy (v := slv 32 0 (path.length - 1) pv) (y_assign rfl) ?_
   refine c_nil ?_
   refine n_then ?_
   refine c_seq ?_
   have hh1 := half_lt (n := n) (by omega)
   have hh2 := half_pos n
   refine c_reg ?_
   refine sy (v := I ((n : Nat) : Int)) (y_move rfl) ?_
   refine st (ow_call fn151 rfl (rhalf_c (n) _ (by omega) (by omega)) ⟨rfl, trivial⟩) ?_
   rintro _ w22 ⟨rfl, hB23⟩
   have H24 : St w _ [_, _, _, _] w22 := H21.call hB23
   refine sy (v := I ((half n : Nat) : Int)) (y_assign rfl) ?_
   refine c_nil ?_
   refine n_then ?_
   refine c_seq ?_
   refine c_seq ?_
   refine c_reg ?_
   refine sy (v := I ((i : Nat) : Int)) (y_move rfl) ?_
   refine sy (v := I ((half n : Nat) : Int)) (y_move rfl) ?_
   refine sy (v := .bool (decide (i < (half n)))) (n_lss (a := i) (b := half n) rfl rfl) ?_
   refine c_nil ?_
   refine n_then ?_
   refine c_if rfl (fun hc25 => ?_) (fun hc25 => ?_)
   ·
    refine c_seq ?_
    have hrl := cr_len _ (half n) i h (path.take (path.length - 1)) (Nat.le_refl _)
    rw [List.length_take] at hrl
    refine c_reg ?_
    by_cases hp26 : climbH (half n) i h (path.take (path.length - 1)) = none
    ·
     refine sy (v := Ad (bs g) (0)) (y_move rfl) ?_
     refine sy (v := I ((half n : Nat) : Int)) (y_move rfl) ?_
     refine sy (v := I ((i : Nat) : Int)) (y_move rfl) ?_
     refine sy (v := .agg (h.map B8).toArray) (y_loadA (us := (h).map B8) ag26 sz26 ((List.length_map _).trans hh) rfl (fun j u hu => (H24.cell 2 rfl (by rw [Nat.zero_add]; exact hu)))) ?_
     refine sy (v := slv 32 0 (path.length - 1) pv) (y_move rfl) ?_
     have H29 : St w _ [_, _, _, _] w22 := H24.foc 3 rfl rfl
     refine st (ow_call fn153 rfl (rc_none (IH (path.take (path.length - 1)) (by rw [List.length_take]; omega)) g rows EB (half n) i h (slv 32 0 (path.length - 1) pv) _ hB (fun p hp => H29.own _ List.mem_cons_self p hp) hh (by omega) (by omega) (by omega) (rdh_pre (hP.awayX H29) (by omega) hhp) (hh_take (m := path.length - 1) hhp) (by first | omega | (simp only [List.length_append, List.length_cons, List.length_nil, List.length_take, List.length_drop]; omega)) hp26) ⟨rfl, rfl, rfl, rfl, rfl, trivial⟩) ?_
     rintro _ w31 ⟨x27, rfl, hx28, E30, hK33, H32⟩
     have H34 : St w _ [_, _, _, _] w31 := H29.appE H32
     refine sy (v := .tuple #[.agg (x27.map B8).toArray, .bool (false)]) (y_move rfl) ?_
     refine sy (v := .agg (x27.map B8).toArray) (y_extract (i := 0) rfl rfl) ?_
     refine sy (v := .bool (false)) (y_extract (i := 1) rfl rfl) ?_
     refine st (ow_alloc (l := (List.replicate 32 0).map B8) H34 zr26 (by simp [Value.cells])) ?_
     rintro _ w36 ⟨g35, rfl, H37⟩
     refine s0 (ow_storeW (us := (x27).map B8) H37 sz26 ((List.length_map _).trans hx28) rfl rfl (map_one (F := B8) (fun _ => rfl) _) ((List.length_map _).trans List.length_replicate)) ?_
     rintro _ w38 H39'
     have H39 : St w _ [[(g35, Rw 26 ((x27).map B8))], _, _, _, _] w38 := H39'
     refine sy (v := .bool (false)) (y_assign rfl) ?_
     refine c_nil ?_
     refine n_then ?_
     refine c_seq ?_
     refine c_seq ?_
     refine c_reg ?_
     refine sy (v := .bool (false)) (y_move rfl) ?_
     refine sy (v := .bool (true)) (y_not (p := false) rfl) ?_
     refine c_nil ?_
     refine n_then ?_
     refine c_t rfl rfl ?_
     refine c_seq ?_
     refine c_reg ?_
     refine sy (v := .agg (h.map B8).toArray) (y_loadA (us := (h).map B8) ag26 sz26 ((List.length_map _).trans hh) rfl (fun j u hu => (H39.cell 4 rfl (by rw [Nat.zero_add]; exact hu)))) ?_
     have H40 : St w _ [_, _, _, _, _] w38 := H39.foc 3 rfl rfl
     refine s0 (ow_storeW (us := (h).map B8) H40 sz26 ((List.length_map _).trans hh) rfl rfl (map_one (F := B8) (fun _ => rfl) _) ((List.length_map _).trans List.length_replicate)) ?_
     rintro _ w41 H42'
     have H42 : St w _ [[(g4, Rw 26 ((h).map B8))], _, _, _, _] w41 := H42'
     refine sy (v := .bool (false)) (y_assign (v := .bool (false)) rfl) ?_
     refine c_nil ?_
     refine n_then ?_
     refine wp_ret ?_
     refine r_then (r_then ?_)
     refine e_r2 Try.results153 (rv_b H42 (i := 0) rfl ag26 sz26 ((List.length_map _).trans hh) rfl) (rv_t rfl) ?_
     have H43 : St w _ [_, _, _, _, _] w41 := H42.foc 2 rfl rfl
     have H44 : St w _ [_] w41 := H43.take 1 rfl
     have hb : climbH n i h path = none := by rw [ch_l (by omega) (by omega) (by omega), hp26]; rfl
     exact ⟨_, rfl, h, by rw [hb]; rfl, hh, (fun y hy => by rw [hb] at hy; cases hy), _, by rw [cr_none hb, List.append_nil]; exact hK33, H44⟩
    ·
     refine sy (v := Ad (bs g) (0)) (y_move rfl) ?_
     refine sy (v := I ((half n : Nat) : Int)) (y_move rfl) ?_
     refine sy (v := I ((i : Nat) : Int)) (y_move rfl) ?_
     refine sy (v := .agg (h.map B8).toArray) (y_loadA (us := (h).map B8) ag26 sz26 ((List.length_map _).trans hh) rfl (fun j u hu => (H24.cell 2 rfl (by rw [Nat.zero_add]; exact hu)))) ?_
     refine sy (v := slv 32 0 (path.length - 1) pv) (y_move rfl) ?_
     obtain ⟨tt, htt⟩ := Option.ne_none_iff_exists'.1 hp26
     have httl := climb_len _ (half n) i h (path.take (path.length - 1)) tt (Nat.le_refl _) hh htt
     have H45 : St w _ [_, _, _, _] w22 := H24.foc 3 rfl rfl
     refine st (ow_call fn153 rfl (rc_some (IH (path.take (path.length - 1)) (by rw [List.length_take]; omega)) g rows EB (half n) i h (slv 32 0 (path.length - 1) pv) _ hB (fun p hp => H45.own _ List.mem_cons_self p hp) hh (by omega) (by omega) (by omega) (rdh_pre (hP.awayX H45) (by omega) hhp) (hh_take (m := path.length - 1) hhp) (by first | omega | (simp only [List.length_append, List.length_cons, List.length_nil, List.length_take, List.length_drop]; omega)) htt) ⟨rfl, rfl, rfl, rfl, rfl, trivial⟩) ?_
     rintro _ w47 ⟨rfl, E46, hK49, H48⟩
     have H50 : St w _ [_, _, _, _] w47 := H45.appE H48
     refine sy (v := .tuple #[.agg (tt.map B8).toArray, .bool (true)]) (y_move rfl) ?_
     refine sy (v := .agg (tt.map B8).toArray) (y_extract (i := 0) rfl rfl) ?_
     refine sy (v := .bool (true)) (y_extract (i := 1) rfl rfl) ?_
     refine st (ow_alloc (l := (List.replicate 32 0).map B8) H50 zr26 (by simp [Value.cells])) ?_
     rintro _ w52 ⟨g51, rfl, H53⟩
     refine s0 (ow_storeW (us := (tt).map B8) H53 sz26 ((List.length_map _).trans httl) rfl rfl (map_one (F := B8) (fun _ => rfl) _) ((List.length_map _).trans List.length_replicate)) ?_
     rintro _ w54 H55'
     have H55 : St w _ [[(g51, Rw 26 ((tt).map B8))], _, _, _, _] w54 := H55'
     refine sy (v := .bool (true)) (y_assign rfl) ?_
     refine c_nil ?_
     refine n_then ?_
     refine c_seq ?_
     refine c_seq ?_
     refine c_reg ?_
     refine sy (v := .bool (true)) (y_move rfl) ?_
     refine sy (v := .bool (false)) (y_not (p := true) rfl) ?_
     refine c_nil ?_
     refine n_then ?_
     refine c_f rfl rfl ?_
     refine wp_skip ?_
     refine n_then ?_
     refine c_seq ?_
     refine c_reg ?_
     refine sy (v := Ad (bs g) (0)) (y_move rfl) ?_
     refine sy (v := .agg (tt.map B8).toArray) (y_loadA (us := (tt).map B8) ag26 sz26 ((List.length_map _).trans httl) rfl (fun j u hu => (H55.cell 0 rfl (by rw [Nat.zero_add]; exact hu)))) ?_
     refine sy (v := .agg ((path.getD (path.length - 1) []).map B8).toArray) (y_loadA (us := (path.getD (path.length - 1) []).map B8) ag26 sz26 ((List.length_map _).trans (getD_len hhp (by omega))) rfl (fun j u hu => (H55.cell 2 rfl (by rw [Nat.zero_add]; exact hu)))) ?_
     have H56 : St w _ [_, _, _, _, _] w54 := H55.foc 1 rfl rfl
     refine st (ow_call fn152 rfl (binner_c g (rows ++ climbR (half n) i h (path.take (path.length - 1))) E46 tt (path.getD (path.length - 1) []) _ hK49 (fun p hp => H56.own _ List.mem_cons_self p hp) httl (getD_len hhp (by omega)) (by first | omega | (simp only [List.length_append, List.length_cons, List.length_nil, List.length_take, List.length_drop]; omega))) ⟨rfl, rfl, rfl, trivial⟩) ?_
     rintro _ w58 ⟨rfl, E57, hK60, H59⟩
     have H61 : St w _ [_, _, _, _, _] w58 := H56.appE H59
     have H62 : St w _ [_, _, _, _, _] w58 := H61.foc 3 rfl rfl
     refine s0 (ow_storeW (us := (innerH tt (path.getD (path.length - 1) [])).map B8) H62 sz26 ((List.length_map _).trans (innerH_len tt (path.getD (path.length - 1) []))) rfl rfl (map_one (F := B8) (fun _ => rfl) _) ((List.length_map _).trans List.length_replicate)) ?_
     rintro _ w63 H64'
     have H64 : St w _ [[(g4, Rw 26 ((innerH tt (path.getD (path.length - 1) [])).map B8))], _, _, _, _] w63 := H64'
     refine sy (v := .bool (true)) (y_assign (v := .bool (true)) rfl) ?_
     refine c_nil ?_
     refine n_then ?_
     refine wp_ret ?_
     refine r_then ?_
     refine e_r2 Try.results153 (rv_b H64 (i := 0) rfl ag26 sz26 ((List.length_map _).trans (innerH_len tt (path.getD (path.length - 1) []))) rfl) (rv_t rfl) ?_
     have H65 : St w _ [_, _, _, _, _] w63 := H64.foc 1 rfl rfl
     have H66 : St w _ [_] w63 := H65.take 1 rfl
     have hc := ch_l (n := n) (i := i) (h := h) (path := path) (by omega) (by omega) (by omega)
     rw [htt] at hc
     have hcr := cr_l (n := n) (i := i) (h := h) (path := path) (by omega) (by omega) (by omega) htt
     have hk := hK60
     rw [List.append_assoc] at hk
     exact ⟨_, rfl, innerH tt (path.getD (path.length - 1) []), by rw [hc]; rfl, innerH_len _ _, (fun y hy => by rw [hc] at hy; exact Option.some.inj hy), _, by rw [hcr]; exact hk, H66⟩
   ·
    refine wp_skip ?_
    refine n_then ?_
    refine c_seq ?_
    have hrl := cr_len _ (n - half n) (i - half n) h (path.take (path.length - 1)) (Nat.le_refl _)
    rw [List.length_take] at hrl
    refine c_reg ?_
    by_cases hp67 : climbH (n - half n) (i - half n) h (path.take (path.length - 1)) = none
    ·
     refine sy (v := Ad (bs g) (0)) (y_move rfl) ?_
     refine sy (v := I ((n : Nat) : Int)) (y_move rfl) ?_
     refine sy (v := I ((half n : Nat) : Int)) (y_move rfl) ?_
     refine sy (v := I ((n - (half n) : Nat) : Int)) (n_sub (a := n) (b := half n) rfl rfl (by omega) (by omega)) ?_
     refine sy (v := I ((i : Nat) : Int)) (y_move rfl) ?_
     refine sy (v := I ((half n : Nat) : Int)) (y_move rfl) ?_
     refine sy (v := I ((i - (half n) : Nat) : Int)) (n_sub (a := i) (b := half n) rfl rfl (by omega) (by omega)) ?_
     refine sy (v := .agg (h.map B8).toArray) (y_loadA (us := (h).map B8) ag26 sz26 ((List.length_map _).trans hh) rfl (fun j u hu => (H24.cell 2 rfl (by rw [Nat.zero_add]; exact hu)))) ?_
     refine sy (v := slv 32 0 (path.length - 1) pv) (y_move rfl) ?_
     have H70 : St w _ [_, _, _, _] w22 := H24.foc 3 rfl rfl
     refine st (ow_call fn153 rfl (rc_none (IH (path.take (path.length - 1)) (by rw [List.length_take]; omega)) g rows EB (n - (half n)) (i - (half n)) h (slv 32 0 (path.length - 1) pv) _ hB (fun p hp => H70.own _ List.mem_cons_self p hp) hh (by omega) (by omega) (by omega) (rdh_pre (hP.awayX H70) (by omega) hhp) (hh_take (m := path.length - 1) hhp) (by first | omega | (simp only [List.length_append, List.length_cons, List.length_nil, List.length_take, List.length_drop]; omega)) hp67) ⟨rfl, rfl, rfl, rfl, rfl, trivial⟩) ?_
     rintro _ w72 ⟨x68, rfl, hx69, E71, hK74, H73⟩
     have H75 : St w _ [_, _, _, _] w72 := H70.appE H73
     refine sy (v := .tuple #[.agg (x68.map B8).toArray, .bool (false)]) (y_move rfl) ?_
     refine sy (v := .agg (x68.map B8).toArray) (y_extract (i := 0) rfl rfl) ?_
     refine sy (v := .bool (false)) (y_extract (i := 1) rfl rfl) ?_
     refine st (ow_alloc (l := (List.replicate 32 0).map B8) H75 zr26 (by simp [Value.cells])) ?_
     rintro _ w77 ⟨g76, rfl, H78⟩
     refine s0 (ow_storeW (us := (x68).map B8) H78 sz26 ((List.length_map _).trans hx69) rfl rfl (map_one (F := B8) (fun _ => rfl) _) ((List.length_map _).trans List.length_replicate)) ?_
     rintro _ w79 H80'
     have H80 : St w _ [[(g76, Rw 26 ((x68).map B8))], _, _, _, _] w79 := H80'
     refine sy (v := .bool (false)) (y_assign rfl) ?_
     refine c_nil ?_
     refine n_then ?_
     refine c_seq ?_
     refine c_seq ?_
     refine c_reg ?_
     refine sy (v := .bool (false)) (y_move rfl) ?_
     refine sy (v := .bool (true)) (y_not (p := false) rfl) ?_
     refine c_nil ?_
     refine n_then ?_
     refine c_t rfl rfl ?_
     refine c_seq ?_
     refine c_reg ?_
     refine sy (v := .agg (h.map B8).toArray) (y_loadA (us := (h).map B8) ag26 sz26 ((List.length_map _).trans hh) rfl (fun j u hu => (H80.cell 4 rfl (by rw [Nat.zero_add]; exact hu)))) ?_
     have H81 : St w _ [_, _, _, _, _] w79 := H80.foc 3 rfl rfl
     refine s0 (ow_storeW (us := (h).map B8) H81 sz26 ((List.length_map _).trans hh) rfl rfl (map_one (F := B8) (fun _ => rfl) _) ((List.length_map _).trans List.length_replicate)) ?_
     rintro _ w82 H83'
     have H83 : St w _ [[(g4, Rw 26 ((h).map B8))], _, _, _, _] w82 := H83'
     refine sy (v := .bool (false)) (y_assign (v := .bool (false)) rfl) ?_
     refine c_nil ?_
     refine n_then ?_
     refine wp_ret ?_
     refine r_then ?_
     refine e_r2 Try.results153 (rv_b H83 (i := 0) rfl ag26 sz26 ((List.length_map _).trans hh) rfl) (rv_t rfl) ?_
     have H84 : St w _ [_, _, _, _, _] w82 := H83.foc 2 rfl rfl
     have H85 : St w _ [_] w82 := H84.take 1 rfl
     have hb : climbH n i h path = none := by rw [ch_r (by omega) (by omega) (by omega), hp67]; rfl
     exact ⟨_, rfl, h, by rw [hb]; rfl, hh, (fun y hy => by rw [hb] at hy; cases hy), _, by rw [cr_none hb, List.append_nil]; exact hK74, H85⟩
    ·
     refine sy (v := Ad (bs g) (0)) (y_move rfl) ?_
     refine sy (v := I ((n : Nat) : Int)) (y_move rfl) ?_
     refine sy (v := I ((half n : Nat) : Int)) (y_move rfl) ?_
     refine sy (v := I ((n - (half n) : Nat) : Int)) (n_sub (a := n) (b := half n) rfl rfl (by omega) (by omega)) ?_
     refine sy (v := I ((i : Nat) : Int)) (y_move rfl) ?_
     refine sy (v := I ((half n : Nat) : Int)) (y_move rfl) ?_
     refine sy (v := I ((i - (half n) : Nat) : Int)) (n_sub (a := i) (b := half n) rfl rfl (by omega) (by omega)) ?_
     refine sy (v := .agg (h.map B8).toArray) (y_loadA (us := (h).map B8) ag26 sz26 ((List.length_map _).trans hh) rfl (fun j u hu => (H24.cell 2 rfl (by rw [Nat.zero_add]; exact hu)))) ?_
     refine sy (v := slv 32 0 (path.length - 1) pv) (y_move rfl) ?_
     obtain ⟨tt, htt⟩ := Option.ne_none_iff_exists'.1 hp67
     have httl := climb_len _ (n - (half n)) (i - (half n)) h (path.take (path.length - 1)) tt (Nat.le_refl _) hh htt
     have H86 : St w _ [_, _, _, _] w22 := H24.foc 3 rfl rfl
     refine st (ow_call fn153 rfl (rc_some (IH (path.take (path.length - 1)) (by rw [List.length_take]; omega)) g rows EB (n - (half n)) (i - (half n)) h (slv 32 0 (path.length - 1) pv) _ hB (fun p hp => H86.own _ List.mem_cons_self p hp) hh (by omega) (by omega) (by omega) (rdh_pre (hP.awayX H86) (by omega) hhp) (hh_take (m := path.length - 1) hhp) (by first | omega | (simp only [List.length_append, List.length_cons, List.length_nil, List.length_take, List.length_drop]; omega)) htt) ⟨rfl, rfl, rfl, rfl, rfl, trivial⟩) ?_
     rintro _ w88 ⟨rfl, E87, hK90, H89⟩
     have H91 : St w _ [_, _, _, _] w88 := H86.appE H89
     refine sy (v := .tuple #[.agg (tt.map B8).toArray, .bool (true)]) (y_move rfl) ?_
     refine sy (v := .agg (tt.map B8).toArray) (y_extract (i := 0) rfl rfl) ?_
     refine sy (v := .bool (true)) (y_extract (i := 1) rfl rfl) ?_
     refine st (ow_alloc (l := (List.replicate 32 0).map B8) H91 zr26 (by simp [Value.cells])) ?_
     rintro _ w93 ⟨g92, rfl, H94⟩
     refine s0 (ow_storeW (us := (tt).map B8) H94 sz26 ((List.length_map _).trans httl) rfl rfl (map_one (F := B8) (fun _ => rfl) _) ((List.length_map _).trans List.length_replicate)) ?_
     rintro _ w95 H96'
     have H96 : St w _ [[(g92, Rw 26 ((tt).map B8))], _, _, _, _] w95 := H96'
     refine sy (v := .bool (true)) (y_assign rfl) ?_
     refine c_nil ?_
     refine n_then ?_
     refine c_seq ?_
     refine c_seq ?_
     refine c_reg ?_
     refine sy (v := .bool (true)) (y_move rfl) ?_
     refine sy (v := .bool (false)) (y_not (p := true) rfl) ?_
     refine c_nil ?_
     refine n_then ?_
     refine c_f rfl rfl ?_
     refine wp_skip ?_
     refine n_then ?_
     refine c_seq ?_
     refine c_reg ?_
     refine sy (v := Ad (bs g) (0)) (y_move rfl) ?_
     refine sy (v := .agg ((path.getD (path.length - 1) []).map B8).toArray) (y_loadA (us := (path.getD (path.length - 1) []).map B8) ag26 sz26 ((List.length_map _).trans (getD_len hhp (by omega))) rfl (fun j u hu => (H96.cell 2 rfl (by rw [Nat.zero_add]; exact hu)))) ?_
     refine sy (v := .agg (tt.map B8).toArray) (y_loadA (us := (tt).map B8) ag26 sz26 ((List.length_map _).trans httl) rfl (fun j u hu => (H96.cell 0 rfl (by rw [Nat.zero_add]; exact hu)))) ?_
     have H97 : St w _ [_, _, _, _, _] w95 := H96.foc 1 rfl rfl
     refine st (ow_call fn152 rfl (binner_c g (rows ++ climbR (n - (half n)) (i - (half n)) h (path.take (path.length - 1))) E87 (path.getD (path.length - 1) []) tt _ hK90 (fun p hp => H97.own _ List.mem_cons_self p hp) (getD_len hhp (by omega)) httl (by first | omega | (simp only [List.length_append, List.length_cons, List.length_nil, List.length_take, List.length_drop]; omega))) ⟨rfl, rfl, rfl, trivial⟩) ?_
     rintro _ w99 ⟨rfl, E98, hK101, H100⟩
     have H102 : St w _ [_, _, _, _, _] w99 := H97.appE H100
     have H103 : St w _ [_, _, _, _, _] w99 := H102.foc 3 rfl rfl
     refine s0 (ow_storeW (us := (innerH (path.getD (path.length - 1) []) tt).map B8) H103 sz26 ((List.length_map _).trans (innerH_len (path.getD (path.length - 1) []) tt)) rfl rfl (map_one (F := B8) (fun _ => rfl) _) ((List.length_map _).trans List.length_replicate)) ?_
     rintro _ w104 H105'
     have H105 : St w _ [[(g4, Rw 26 ((innerH (path.getD (path.length - 1) []) tt).map B8))], _, _, _, _] w104 := H105'
     refine sy (v := .bool (true)) (y_assign (v := .bool (true)) rfl) ?_
     refine c_nil ?_
     refine n_then ?_
     refine wp_ret ?_
     refine e_r2 Try.results153 (rv_b H105 (i := 0) rfl ag26 sz26 ((List.length_map _).trans (innerH_len (path.getD (path.length - 1) []) tt)) rfl) (rv_t rfl) ?_
     have H106 : St w _ [_, _, _, _, _] w104 := H105.foc 1 rfl rfl
     have H107 : St w _ [_] w104 := H106.take 1 rfl
     have hc := ch_r (n := n) (i := i) (h := h) (path := path) (by omega) (by omega) (by omega)
     rw [htt] at hc
     have hcr := cr_r (n := n) (i := i) (h := h) (path := path) (by omega) (by omega) (by omega) htt
     have hk := hK101
     rw [List.append_assoc] at hk
     exact ⟨_, rfl, innerH (path.getD (path.length - 1) []) tt, by rw [hc]; rfl, innerH_len _ _, (fun y hy => by rw [hc] at hy; exact Option.some.inj hy), _, by rw [hcr]; exact hk, H107⟩

theorem rclimb_all : ∀ (m : Nat) (path : List (List UInt8)), path.length ≤ m → RClimbC path
  | 0, path, h1 => fun g rows EB n i h pv w q1 q2 q3 q4 q5 q6 q7 q8 q9 => rclimb_step g rows EB n i h pv path w q1 q2 q3 q4 q5 q6 q7 q8 (fun p hp => by omega) q9
  | m + 1, path, h1 => fun g rows EB n i h pv w q1 q2 q3 q4 q5 q6 q7 q8 q9 => rclimb_step g rows EB n i h pv path w q1 q2 q3 q4 q5 q6 q7 q8 (fun p hp => rclimb_all m p (by omega)) q9

theorem right_c (g : Nat) (rows : List (List UInt8)) (EB : Part) (root : List UInt8) (n fn : Int) (c : Cl) (pv : Value) (path : List (List UInt8)) (w : World) (hB : BkP g rows EB) (hown : ∀ p ∈ EB, w.heap[p.1]? = some p.2) (hr : root.length = 32) (hn : n ≤ 9223372036854775807) (hC : CR (EB.map (·.1)) w c) (hP : Rd (EB.map (·.1)) w 32 pv path.length (path.flatten.map B8)) (hhp : H32 path) (hrb : rows.length + path.length + 2 ≤ 4398046511104) :
    Calls Try.prog 131 (([Ad (bs g) (0), .agg (root.map B8).toArray, I (n), .agg ([I fn, I c.c.k, .string (bst c.c.key), c.v, pv]).toArray] : List Value).toArray) w (fun e w' => ∃ v, e = .returned v ∧ ∃ b : Bool, v = .bool b ∧ (b = true ↔ stands root n ⟨fn, c.c, path⟩) ∧ ∃ EB', BkP g (rows ++ leafR n ⟨fn, c.c, path⟩) EB' ∧ St w (EB.map (·.1)) [EB'] w') := by
 refine calls_mk Try.func131 rfl 53 Try.ntmps131 rfl ?_
 have H0 : St w (EB.map (·.1)) [EB] w := St.initE hown
 refine c_seq ?_
 refine c_reg ?_
 refine st (ow_box (l := (root).map B8) H0 rfl rfl) ?_
 rintro _ w2 ⟨g1, rfl, H3⟩
 refine st (ow_box (l := [I (fn), I (c.c.k), .string (bst c.c.key), c.v, pv]) H3 rfl rfl) ?_
 rintro _ w5 ⟨g4, rfl, H6⟩
 refine sy (v := .bool (false)) (y_assign (v := .bool (false)) rfl) ?_
 refine c_nil ?_
 refine n_then ?_
 refine c_seq ?_
 refine c_reg ?_
 refine sy (v := Ad (bs g4) (0 + 1)) (y_fld Try.underlying74 rfl rfl sz48 (by decide) rfl) ?_
 refine sy (v := Ad (bs g4) ((0 + 1) + 0)) (y_fld Try.underlying48 rfl rfl sz3 (by decide) rfl) ?_
 refine sy (v := I (c.c.k)) (y_load sc3 rfl (H6.cell 0 rfl rfl)) ?_
 refine st (ow_call fn83 rfl (kindMay_c (c.c.k) _) ⟨rfl, trivial⟩) ?_
 rintro _ w7 ⟨rfl, hB8⟩
 have H9 : St w _ [_, _, _] w7 := H6.call hB8
 refine sy (v := .bool (decide (kMay c.c.k))) (y_assign rfl) ?_
 refine c_nil ?_
 refine n_then ?_
 refine c_seq ?_
 refine c_seq ?_
 refine c_reg ?_
 refine sy (v := .bool (decide (kMay c.c.k))) (y_move rfl) ?_
 refine sy (v := .bool (decide (¬ (kMay c.c.k)))) (y_notP rfl) ?_
 refine sy (v := .bool (decide (¬ (kMay c.c.k)))) (y_move rfl) ?_
 by_cases hp10 : ¬ (kMay c.c.k)
 ·
  refine gno (gv_of (t := 19) rfl rfl rfl) (decide_eq_true hp10) ?_
  refine gno (gv_of (t := 19) rfl rfl rfl) (decide_eq_true hp10) ?_
  refine gno (gv_of (t := 19) rfl rfl rfl) (decide_eq_true hp10) ?_
  refine sy (v := .bool (true)) (y_pickT (v := .bool (true)) rfl (decide_eq_true hp10) rfl) ?_
  refine sy (v := .bool (true)) (y_move rfl) ?_
  refine gno (t := true) (b := false) (gv_of (t := 24) rfl rfl rfl) (rfl) ?_
  refine gno (t := true) (b := false) (gv_of (t := 24) rfl rfl rfl) (rfl) ?_
  refine gno (t := true) (b := false) (gv_of (t := 24) rfl rfl rfl) (rfl) ?_
  refine gno (t := true) (b := false) (gv_of (t := 24) rfl rfl rfl) (rfl) ?_
  refine sy (v := .bool (true)) (y_pickT (v := .bool (true)) rfl (rfl) rfl) ?_
  refine c_nil ?_
  refine n_then ?_
  refine c_t rfl rfl ?_
  refine c_seq ?_
  refine c_reg ?_
  refine sy (v := .bool (false)) (y_assign (v := .bool (false)) rfl) ?_
  refine c_nil ?_
  refine n_then ?_
  refine wp_ret ?_
  refine r_then ?_
  refine e_r1 Try.results131 (rv_t rfl) ?_
  have H11 : St w _ [_, _, _] w7 := H9.foc 2 rfl rfl
  have H12 : St w _ [_] w7 := H11.take 1 rfl
  have hno : ¬ (kMay c.c.k ∧ 0 ≤ fn ∧ fn < n) := fun ⟨h1, h2, h3⟩ => by first | (exact absurd h1 (by assumption)) | omega
  exact ⟨_, rfl, false, rfl, ⟨fun h => absurd h (by simp), fun ⟨h1, h2, h3, h4⟩ => absurd ⟨h1, h2, h3⟩ hno⟩, _, by rw [leafR_no (f := ⟨fn, c.c, path⟩) hno, List.append_nil]; exact hB, H12⟩
 ·
  refine gsy (v := Ad (bs g4) (0 + 0)) (gv_of (t := 19) rfl rfl rfl) (decide_eq_false hp10) (y_fld Try.underlying74 rfl rfl sz3 (by decide) rfl) ?_
  refine gsy (v := I (fn)) (gv_of (t := 19) rfl rfl rfl) (decide_eq_false hp10) (y_load sc3 rfl (H9.cell 0 rfl rfl)) ?_
  refine gsy (v := .bool (decide (fn < ((0 : Nat) : Int)))) (gv_of (t := 19) rfl rfl rfl) (decide_eq_false hp10) (y_lss (i := fn) (j := ((0 : Nat) : Int)) rfl rfl) ?_
  refine sy (v := .bool (decide (fn < ((0 : Nat) : Int)))) (y_pickF rfl (decide_eq_false hp10) rfl) ?_
  refine sy (v := .bool (decide (fn < ((0 : Nat) : Int)))) (y_move rfl) ?_
  by_cases hp13 : fn < ((0 : Nat) : Int)
  ·
   refine gno (gv_of (t := 24) rfl rfl rfl) (decide_eq_true hp13) ?_
   refine gno (gv_of (t := 24) rfl rfl rfl) (decide_eq_true hp13) ?_
   refine gno (gv_of (t := 24) rfl rfl rfl) (decide_eq_true hp13) ?_
   refine gno (gv_of (t := 24) rfl rfl rfl) (decide_eq_true hp13) ?_
   refine sy (v := .bool (true)) (y_pickT (v := .bool (true)) rfl (decide_eq_true hp13) rfl) ?_
   refine c_nil ?_
   refine n_then ?_
   refine c_t rfl rfl ?_
   refine c_seq ?_
   refine c_reg ?_
   refine sy (v := .bool (false)) (y_assign (v := .bool (false)) rfl) ?_
   refine c_nil ?_
   refine n_then ?_
   refine wp_ret ?_
   refine r_then ?_
   refine e_r1 Try.results131 (rv_t rfl) ?_
   have H14 : St w _ [_, _, _] w7 := H9.foc 2 rfl rfl
   have H15 : St w _ [_] w7 := H14.take 1 rfl
   have hno : ¬ (kMay c.c.k ∧ 0 ≤ fn ∧ fn < n) := fun ⟨h1, h2, h3⟩ => by first | (exact absurd h1 (by assumption)) | omega
   exact ⟨_, rfl, false, rfl, ⟨fun h => absurd h (by simp), fun ⟨h1, h2, h3, h4⟩ => absurd ⟨h1, h2, h3⟩ hno⟩, _, by rw [leafR_no (f := ⟨fn, c.c, path⟩) hno, List.append_nil]; exact hB, H15⟩
  ·
   refine gsy (v := Ad (bs g4) (0 + 0)) (gv_of (t := 24) rfl rfl rfl) (decide_eq_false hp13) (y_fld Try.underlying74 rfl rfl sz3 (by decide) rfl) ?_
   refine gsy (v := I (fn)) (gv_of (t := 24) rfl rfl rfl) (decide_eq_false hp13) (y_load sc3 rfl (H9.cell 0 rfl rfl)) ?_
   refine gsy (v := I (n)) (gv_of (t := 24) rfl rfl rfl) (decide_eq_false hp13) (y_move rfl) ?_
   refine gsy (v := .bool (decide (n ≤ fn))) (gv_of (t := 24) rfl rfl rfl) (decide_eq_false hp13) (y_geq (i := fn) (j := n) rfl rfl) ?_
   refine sy (v := .bool (decide (n ≤ fn))) (y_pickF rfl (decide_eq_false hp13) rfl) ?_
   refine c_nil ?_
   refine n_then ?_
   refine c_if rfl (fun hc16 => ?_) (fun hc16 => ?_)
   ·
    refine c_seq ?_
    refine c_reg ?_
    refine sy (v := .bool (false)) (y_assign (v := .bool (false)) rfl) ?_
    refine c_nil ?_
    refine n_then ?_
    refine wp_ret ?_
    refine r_then ?_
    refine e_r1 Try.results131 (rv_t rfl) ?_
    have H17 : St w _ [_, _, _] w7 := H9.foc 2 rfl rfl
    have H18 : St w _ [_] w7 := H17.take 1 rfl
    have hno : ¬ (kMay c.c.k ∧ 0 ≤ fn ∧ fn < n) := fun ⟨h1, h2, h3⟩ => by first | (exact absurd h1 (by assumption)) | omega
    exact ⟨_, rfl, false, rfl, ⟨fun h => absurd h (by simp), fun ⟨h1, h2, h3, h4⟩ => absurd ⟨h1, h2, h3⟩ hno⟩, _, by rw [leafR_no (f := ⟨fn, c.c, path⟩) hno, List.append_nil]; exact hB, H18⟩
   ·
    refine wp_skip ?_
    refine n_then ?_
    refine c_seq ?_
    have hkm : kMay c.c.k := by first | assumption | exact Decidable.not_not.1 (by assumption)
    obtain ⟨m, rfl⟩ : ∃ m : Nat, n = (m : Int) := ⟨n.toNat, by omega⟩
    obtain ⟨i, rfl⟩ : ∃ m : Nat, fn = (m : Int) := ⟨fn.toNat, by omega⟩
    have hrl := cr_len _ m i (leafH c.c) path (Nat.le_refl _)
    refine c_reg ?_
    refine sy (v := Ad (bs g) (0)) (y_move rfl) ?_
    refine sy (v := Ad (bs g4) (0 + 1)) (y_fld Try.underlying74 rfl rfl sz48 (by decide) rfl) ?_
    refine sy (v := .agg ([I c.c.k, .string (bst c.c.key), c.v]).toArray) (y_loadA (us := [I (c.c.k), .string (bst c.c.key), c.v]) ag48 sz48 rfl rfl (fun j u hu => (H9.cell 0 rfl (mid_get (us := [I (c.c.k), .string (bst c.c.key), c.v]) rfl hu)))) ?_
    have H19 : St w _ [_, _, _] w7 := H9.foc 2 rfl rfl
    refine st (ow_call fn150 rfl (bleaf_c g rows EB c _ hB (fun p hp => H19.own _ List.mem_cons_self p hp) (CR.awayX hC H19) (by first | omega | (simp only [List.length_append, List.length_cons, List.length_nil, List.length_take, List.length_drop]; omega))) ⟨rfl, rfl, trivial⟩) ?_
    rintro _ w21 ⟨rfl, E20, hK23, H22⟩
    have H24 : St w _ [_, _, _] w21 := H19.appE H22
    refine st (ow_alloc (l := (List.replicate 32 0).map B8) H24 zr26 (by simp [Value.cells])) ?_
    rintro _ w26 ⟨g25, rfl, H27⟩
    refine s0 (ow_storeW (us := (leafH c.c).map B8) H27 sz26 ((List.length_map _).trans (leafH_len c.c)) rfl rfl (map_one (F := B8) (fun _ => rfl) _) ((List.length_map _).trans List.length_replicate)) ?_
    rintro _ w28 H29'
    have H29 : St w _ [[(g25, Rw 26 ((leafH c.c).map B8))], _, _, _] w28 := H29'
    refine c_nil ?_
    refine n_then ?_
    refine c_seq ?_
    refine c_reg ?_
    by_cases hp30 : climbH m i (leafH c.c) path = none
    ·
     refine sy (v := Ad (bs g) (0)) (y_move rfl) ?_
     refine sy (v := I ((m : Nat) : Int)) (y_move rfl) ?_
     refine sy (v := Ad (bs g4) (0 + 0)) (y_fld Try.underlying74 rfl rfl sz3 (by decide) rfl) ?_
     refine sy (v := I ((i : Nat) : Int)) (y_load sc3 rfl (H29.cell 2 rfl rfl)) ?_
     refine sy (v := .agg ((leafH c.c).map B8).toArray) (y_loadA (us := (leafH c.c).map B8) ag26 sz26 ((List.length_map _).trans (leafH_len c.c)) rfl (fun j u hu => (H29.cell 0 rfl (by rw [Nat.zero_add]; exact hu)))) ?_
     refine sy (v := Ad (bs g4) (0 + 4)) (y_fld Try.underlying74 rfl rfl sz72 (by decide) rfl) ?_
     refine sy (v := pv) (y_load sc72 rfl (H29.cell 2 rfl rfl)) ?_
     have H33 : St w _ [_, _, _, _] w28 := H29.foc 1 rfl rfl
     refine st (ow_call fn153 rfl (rc_none (rclimb_all _ path (Nat.le_refl _)) g (rows ++ ([leafB c.c])) E20 m i (leafH c.c) pv _ hK23 (fun p hp => H33.own _ List.mem_cons_self p hp) (leafH_len c.c) (by omega) (by omega) (by omega) (hP.awayX H33) hhp (by first | omega | (simp only [List.length_append, List.length_cons, List.length_nil, List.length_take, List.length_drop]; omega)) hp30) ⟨rfl, rfl, rfl, rfl, rfl, trivial⟩) ?_
     rintro _ w35 ⟨x31, rfl, hx32, E34, hK37, H36⟩
     have H38 : St w _ [_, _, _, _] w35 := H33.appE H36
     refine sy (v := .tuple #[.agg (x31.map B8).toArray, .bool (false)]) (y_move rfl) ?_
     refine sy (v := .agg (x31.map B8).toArray) (y_extract (i := 0) rfl rfl) ?_
     refine sy (v := .bool (false)) (y_extract (i := 1) rfl rfl) ?_
     refine st (ow_alloc (l := (List.replicate 32 0).map B8) H38 zr26 (by simp [Value.cells])) ?_
     rintro _ w40 ⟨g39, rfl, H41⟩
     refine s0 (ow_storeW (us := (x31).map B8) H41 sz26 ((List.length_map _).trans hx32) rfl rfl (map_one (F := B8) (fun _ => rfl) _) ((List.length_map _).trans List.length_replicate)) ?_
     rintro _ w42 H43'
     have H43 : St w _ [[(g39, Rw 26 ((x31).map B8))], _, _, _, _] w42 := H43'
     refine sy (v := .bool (false)) (y_assign rfl) ?_
     refine c_nil ?_
     refine n_then ?_
     refine c_seq ?_
     refine c_seq ?_
     refine c_reg ?_
     refine sy (v := .bool (false)) (y_move rfl) ?_
     refine sy (v := .bool (true)) (y_not (p := false) rfl) ?_
     refine c_nil ?_
     refine n_then ?_
     refine c_t rfl rfl ?_
     refine c_seq ?_
     refine c_reg ?_
     refine sy (v := .bool (false)) (y_assign (v := .bool (false)) rfl) ?_
     refine c_nil ?_
     refine n_then ?_
     refine wp_ret ?_
     refine r_then ?_
     refine e_r1 Try.results131 (rv_t rfl) ?_
     have H44 : St w _ [_, _, _, _, _] w42 := H43.foc 1 rfl rfl
     have H45 : St w _ [_] w42 := H44.take 1 rfl
     have hyes : kMay c.c.k ∧ (0 : Int) ≤ (i : Int) ∧ (i : Int) < (m : Int) := ⟨hkm, by omega, by omega⟩
     exact ⟨_, rfl, false, rfl, ⟨fun h => absurd h (by simp), fun ⟨h1, h2, h3, t, h4, h5⟩ => by
      have h4' : climbH m i (leafH c.c) path = some t := h4
      rw [hp30] at h4'; cases h4'⟩, _, by rw [leafR_none (n := (m : Int)) (f := ⟨(i : Int), c.c, path⟩) hyes hp30]; exact hK37, H45⟩
    ·
     refine sy (v := Ad (bs g) (0)) (y_move rfl) ?_
     refine sy (v := I ((m : Nat) : Int)) (y_move rfl) ?_
     refine sy (v := Ad (bs g4) (0 + 0)) (y_fld Try.underlying74 rfl rfl sz3 (by decide) rfl) ?_
     refine sy (v := I ((i : Nat) : Int)) (y_load sc3 rfl (H29.cell 2 rfl rfl)) ?_
     refine sy (v := .agg ((leafH c.c).map B8).toArray) (y_loadA (us := (leafH c.c).map B8) ag26 sz26 ((List.length_map _).trans (leafH_len c.c)) rfl (fun j u hu => (H29.cell 0 rfl (by rw [Nat.zero_add]; exact hu)))) ?_
     refine sy (v := Ad (bs g4) (0 + 4)) (y_fld Try.underlying74 rfl rfl sz72 (by decide) rfl) ?_
     refine sy (v := pv) (y_load sc72 rfl (H29.cell 2 rfl rfl)) ?_
     obtain ⟨tt, htt⟩ := Option.ne_none_iff_exists'.1 hp30
     have httl := climb_len _ m i (leafH c.c) path tt (Nat.le_refl _) (leafH_len c.c) htt
     have H46 : St w _ [_, _, _, _] w28 := H29.foc 1 rfl rfl
     refine st (ow_call fn153 rfl (rc_some (rclimb_all _ path (Nat.le_refl _)) g (rows ++ ([leafB c.c])) E20 m i (leafH c.c) pv _ hK23 (fun p hp => H46.own _ List.mem_cons_self p hp) (leafH_len c.c) (by omega) (by omega) (by omega) (hP.awayX H46) hhp (by first | omega | (simp only [List.length_append, List.length_cons, List.length_nil, List.length_take, List.length_drop]; omega)) htt) ⟨rfl, rfl, rfl, rfl, rfl, trivial⟩) ?_
     rintro _ w48 ⟨rfl, E47, hK50, H49⟩
     have H51 : St w _ [_, _, _, _] w48 := H46.appE H49
     refine sy (v := .tuple #[.agg (tt.map B8).toArray, .bool (true)]) (y_move rfl) ?_
     refine sy (v := .agg (tt.map B8).toArray) (y_extract (i := 0) rfl rfl) ?_
     refine sy (v := .bool (true)) (y_extract (i := 1) rfl rfl) ?_
     refine st (ow_alloc (l := (List.replicate 32 0).map B8) H51 zr26 (by simp [Value.cells])) ?_
     rintro _ w53 ⟨g52, rfl, H54⟩
     refine s0 (ow_storeW (us := (tt).map B8) H54 sz26 ((List.length_map _).trans httl) rfl rfl (map_one (F := B8) (fun _ => rfl) _) ((List.length_map _).trans List.length_replicate)) ?_
     rintro _ w55 H56'
     have H56 : St w _ [[(g52, Rw 26 ((tt).map B8))], _, _, _, _] w55 := H56'
     refine sy (v := .bool (true)) (y_assign rfl) ?_
     refine c_nil ?_
     refine n_then ?_
     refine c_seq ?_
     refine c_seq ?_
     refine c_reg ?_
     refine sy (v := .bool (true)) (y_move rfl) ?_
     refine sy (v := .bool (false)) (y_not (p := true) rfl) ?_
     refine c_nil ?_
     refine n_then ?_
     refine c_f rfl rfl ?_
     refine wp_skip ?_
     refine n_then ?_
     refine c_seq ?_
     have H57 : St w _ [_, _, _, _, _] w55 := H56.foc 1 rfl rfl
     refine drawSub (.step 0 0 (.step 0 1 (.step 0 2 (.step 0 4 (.step 1 3 (.step 0 5 (.step 2 6 .nil))))))) mixed H57 (fun _ h => h.drop) (by kernel_rfl) (by kernel_rfl) (by kernel_rfl) ?_
     intro w58 H59
     refine pt (v := Ad (bs g) (0)) rfl (fun wS HS => y_move rfl) ?_
     refine pt (v := I ((m : Nat) : Int)) rfl (fun wS HS => y_move rfl) ?_
     refine pt (v := .agg (tt.map B8).toArray) rfl (fun wS HS => y_loadA (us := (tt).map B8) ag26 sz26 ((List.length_map _).trans httl) rfl (fun j u hu => (HS.cell 0 rfl (by rw [Nat.zero_add]; exact hu)))) ?_
     refine pt (v := .agg (root.map B8).toArray) rfl (fun wS HS => y_loadA (us := (root).map B8) ag26 sz26 ((List.length_map _).trans hr) rfl (fun j u hu => (HS.cell 3 rfl (by rw [Nat.zero_add]; exact hu)))) ?_
     refine pl rfl (ow_call fn129 rfl (btop_c g ((rows ++ ([leafB c.c])) ++ climbR m i (leafH c.c) path) E47 m tt _ hK50 (fun p hp => H59.own _ List.mem_cons_self p hp) httl (by omega) (by first | omega | (simp only [List.length_append, List.length_cons, List.length_nil, List.length_take, List.length_drop]; omega))) ⟨rfl, rfl, rfl, trivial⟩) ?_
     rintro _ w61 ⟨rfl, E60, hK63, H62⟩
     have H64 : St w _ [_, _, _, _, _] w61 := H59.appE H62
     have H65 : St w _ [_, _, _, _, _] w61 := H64.foc 4 rfl rfl
     have H66 : St w _ [_, _, _, _, _] w61 := H65.foc 4 rfl rfl
     have H67 : St w _ [_, _, _, _, _] w61 := H66.foc 4 rfl rfl
     have H68 : St w _ [_, _, _, _, _] w61 := H67.foc 4 rfl rfl
     have H69 : St w _ [_, _, _, _] w61 := H68.take 4 rfl
     refine ⟨H69, ?_⟩
     refine pt (v := .bool (decide ((topH m (if m = 0 then [] else tt)) = root))) rfl (fun wS HS => y_eqlArr (l1 := topH m (if m = 0 then [] else tt)) (l2 := root) Try.underlying26 sz5 sc5 Try.underlying5 gt26 (topH_len m (if m = 0 then [] else tt)) hr rfl rfl) ?_
     refine tly (v := .bool (decide ((topH m (if m = 0 then [] else tt)) = root))) rfl (y_assign rfl) ?_
     refine p_nil ?_
     refine n_then ?_
     refine wp_ret ?_
     refine e_r1 Try.results131 (rv_t rfl) ?_
     have H70 : St w _ [_] w61 := H64.take 1 rfl
     have hyes : kMay c.c.k ∧ (0 : Int) ≤ (i : Int) ∧ (i : Int) < (m : Int) := ⟨hkm, by omega, by omega⟩
     have htop : (if m = 0 then ([] : List UInt8) else tt) = tt := if_neg (by omega)
     have hk := hK63
     rw [htop, List.append_assoc, List.append_assoc] at hk
     have hlr := leafR_some (n := (m : Int)) (f := ⟨(i : Int), c.c, path⟩) hyes (t := tt) htt
     rw [List.append_assoc] at hlr
     refine ⟨_, rfl, _, rfl, ?_, _, by rw [hlr]; exact hk, H70⟩
     rw [htop]
     exact decide_eq_true_iff.trans ⟨(fun h => ⟨hkm, (by show (0 : Int) ≤ (i : Int); omega), (by show (i : Int) < (m : Int); omega), tt, htt, h⟩), (fun ⟨h1, h2, h3, t, h4, h5⟩ => by
      have h4' : climbH m i (leafH c.c) path = some t := h4
      rw [htt] at h4'
      obtain rfl := Option.some.inj h4'
      exact h5)⟩

set_option maxRecDepth 20000 in
theorem says_c (kind : Int) (key : List UInt8) (n : Int) (lv : Value) (ls : List Lf) (w : World) (hn : n ≤ 9223372036854775807) (hn0 : 0 < n) (hL : LsR [] w lv ls) (hl : ls.length = 1 ∨ ls.length = 2) (hb : ∀ j, j < ls.length → 0 ≤ (ls.getD j lf0).n ∧ (ls.getD j lf0).n < n) :
    Calls Try.prog 132 (([I (kind), .string (bst key), .agg ([I n, lv]).toArray] : List Value).toArray) w (fun e w' => ∃ v, e = .returned v ∧ v = I (saysA kind key n (PE ls)) ∧ Below w.heap.size w w') := by
 have hle := hL.le
 have hb0 := hb 0 (by omega)
 refine calls_mk Try.func132 rfl 86 Try.ntmps132 rfl ?_
 have H0 : St w [] [] w := St.refl w
 refine c_seq ?_
 refine c_reg ?_
 refine st (ow_box (l := [I (n), lv]) H0 rfl rfl) ?_
 rintro _ w2 ⟨g1, rfl, H3⟩
 refine sy (v := I ((0 : Nat) : Int)) (y_assign (v := I ((0 : Nat) : Int)) rfl) ?_
 refine c_nil ?_
 refine n_then ?_
 refine c_seq ?_
 refine c_reg ?_
 refine sy (v := Ad (bs g1) (0 + 1)) (y_fld Try.underlying41 rfl rfl sz39 (by decide) rfl) ?_
 refine sy (v := lv) (y_load sc39 rfl (H3.cell 0 rfl rfl)) ?_
 refine sy (v := Ad (sp (lv)) (0 * 5)) (y_ixR (m := 0) Try.underlying39 sz74 (hL.st H3).rd (by decide) rfl rfl rfl (by omega)) ?_
 refine sy (v := .agg ([I ((ls.getD 0 lf0).n), I (((ls.getD 0 lf0).cell).c.k), .string (bst (((ls.getD 0 lf0).cell).c.key)), ((ls.getD 0 lf0).cell).v, (ls.getD 0 lf0).pv]).toArray) (y_loadA (us := (ls.getD 0 lf0).cs) ag74 sz74 rfl rfl (fun j u hu => (hL.st H3).rd.cell _ _ (flat5_get (by omega) hu))) ?_
 refine st (ow_alloc (l := [I ((0 : Nat) : Int), I ((0 : Nat) : Int), .string (.empty), .slice none 0 0, .slice none 0 0]) H3 zr74 rfl) ?_
 rintro _ w5 ⟨g4, rfl, H6⟩
 refine s0 (ow_storeW (us := [I ((ls.getD 0 lf0).n), I (((ls.getD 0 lf0).cell).c.k), .string (bst (((ls.getD 0 lf0).cell).c.key)), ((ls.getD 0 lf0).cell).v, (ls.getD 0 lf0).pv]) H6 sz74 rfl rfl rfl (by intro u hu; simp only [List.mem_cons, List.not_mem_nil, or_false] at hu; rcases hu with rfl | rfl | rfl | rfl | rfl <;> first | rfl | exact Rd.one (((hL.at (d := lf0) (i := 0) (by omega)).cell).1.st H6) | exact Rd.one ((hL.at (d := lf0) (i := 0) (by omega)).rd.st H6)) (by simp [*])) ?_
 rintro _ w7 H8'
 have H8 : St w _ [[(g4, Rw 74 ([I ((ls.getD 0 lf0).n), I (((ls.getD 0 lf0).cell).c.k), .string (bst (((ls.getD 0 lf0).cell).c.key)), ((ls.getD 0 lf0).cell).v, (ls.getD 0 lf0).pv]))], _] w7 := H8'
 refine c_nil ?_
 refine n_then ?_
 refine c_seq ?_
 refine c_reg ?_
 refine sy (v := Ad (bs g4) (0 + 1)) (y_fld Try.underlying74 rfl rfl sz48 (by decide) rfl) ?_
 refine sy (v := Ad (bs g4) ((0 + 1) + 0)) (y_fld Try.underlying48 rfl rfl sz3 (by decide) rfl) ?_
 refine sy (v := I (((ls.getD 0 lf0).cell).c.k)) (y_load sc3 rfl (H8.cell 0 rfl rfl)) ?_
 refine sy (v := Ad (bs g4) (0 + 1)) (y_fld Try.underlying74 rfl rfl sz48 (by decide) rfl) ?_
 refine sy (v := Ad (bs g4) ((0 + 1) + 1)) (y_fld Try.underlying48 rfl rfl sz9 (by decide) rfl) ?_
 refine sy (v := .string (bst (((ls.getD 0 lf0).cell).c.key))) (y_load sc9 rfl (H8.cell 0 rfl rfl)) ?_
 refine sy (v := I (kind)) (y_move rfl) ?_
 refine sy (v := .string (bst key)) (y_move rfl) ?_
 refine st (ow_call fn84 rfl (ahead_c (((ls.getD 0 lf0).cell).c.k) (((ls.getD 0 lf0).cell).c.key) (kind) (key) _) ⟨rfl, rfl, rfl, rfl, trivial⟩) ?_
 rintro _ w9 ⟨rfl, hB10⟩
 have H11 : St w _ [_, _] w9 := H8.call hB10
 refine sy (v := .bool (decide (ahead (((ls.getD 0 lf0).cell).c.k) (((ls.getD 0 lf0).cell).c.key) kind key))) (y_assign rfl) ?_
 refine c_nil ?_
 refine n_then ?_
 refine c_seq ?_
 refine c_reg ?_
 refine sy (v := I (kind)) (y_move rfl) ?_
 refine sy (v := .string (bst key)) (y_move rfl) ?_
 refine sy (v := Ad (bs g4) (0 + 1)) (y_fld Try.underlying74 rfl rfl sz48 (by decide) rfl) ?_
 refine sy (v := Ad (bs g4) ((0 + 1) + 0)) (y_fld Try.underlying48 rfl rfl sz3 (by decide) rfl) ?_
 refine sy (v := I (((ls.getD 0 lf0).cell).c.k)) (y_load sc3 rfl (H11.cell 0 rfl rfl)) ?_
 refine sy (v := Ad (bs g4) (0 + 1)) (y_fld Try.underlying74 rfl rfl sz48 (by decide) rfl) ?_
 refine sy (v := Ad (bs g4) ((0 + 1) + 1)) (y_fld Try.underlying48 rfl rfl sz9 (by decide) rfl) ?_
 refine sy (v := .string (bst (((ls.getD 0 lf0).cell).c.key))) (y_load sc9 rfl (H11.cell 0 rfl rfl)) ?_
 refine st (ow_call fn84 rfl (ahead_c (kind) (key) (((ls.getD 0 lf0).cell).c.k) (((ls.getD 0 lf0).cell).c.key) _) ⟨rfl, rfl, rfl, rfl, trivial⟩) ?_
 rintro _ w12 ⟨rfl, hB13⟩
 have H14 : St w _ [_, _] w12 := H11.call hB13
 refine sy (v := .bool (decide (ahead kind key (((ls.getD 0 lf0).cell).c.k) (((ls.getD 0 lf0).cell).c.key)))) (y_assign rfl) ?_
 refine c_nil ?_
 refine n_then ?_
 refine c_seq ?_
 refine c_seq ?_
 refine c_reg ?_
 refine sy (v := Ad (bs g1) (0 + 1)) (y_fld Try.underlying41 rfl rfl sz39 (by decide) rfl) ?_
 refine sy (v := lv) (y_load sc39 rfl (H14.cell 1 rfl rfl)) ?_
 refine sy (v := I ((ls.length : Nat) : Int)) (y_lenR Try.underlying39 (hL.st H14).rd rfl) ?_
 refine sy (v := .bool (decide (ls.length = 2))) (n_eql (a := ls.length) (b := 2) rfl rfl) ?_
 refine c_nil ?_
 refine n_then ?_
 refine c_if rfl (fun hc15 => ?_) (fun hc15 => ?_)
 ·
  refine c_seq ?_
  have hb1 := hb 1 (by omega)
  refine c_reg ?_
  refine sy (v := Ad (bs g1) (0 + 1)) (y_fld Try.underlying41 rfl rfl sz39 (by decide) rfl) ?_
  refine sy (v := lv) (y_load sc39 rfl (H14.cell 1 rfl rfl)) ?_
  refine sy (v := Ad (sp (lv)) (1 * 5)) (y_ixR (m := 1) Try.underlying39 sz74 (hL.st H14).rd (by decide) rfl rfl rfl (by omega)) ?_
  refine sy (v := .agg ([I ((ls.getD 1 lf0).n), I (((ls.getD 1 lf0).cell).c.k), .string (bst (((ls.getD 1 lf0).cell).c.key)), ((ls.getD 1 lf0).cell).v, (ls.getD 1 lf0).pv]).toArray) (y_loadA (us := (ls.getD 1 lf0).cs) ag74 sz74 rfl rfl (fun j u hu => (hL.st H14).rd.cell _ _ (flat5_get (by omega) hu))) ?_
  refine st (ow_alloc (l := [I ((0 : Nat) : Int), I ((0 : Nat) : Int), .string (.empty), .slice none 0 0, .slice none 0 0]) H14 zr74 rfl) ?_
  rintro _ w17 ⟨g16, rfl, H18⟩
  refine s0 (ow_storeW (us := [I ((ls.getD 1 lf0).n), I (((ls.getD 1 lf0).cell).c.k), .string (bst (((ls.getD 1 lf0).cell).c.key)), ((ls.getD 1 lf0).cell).v, (ls.getD 1 lf0).pv]) H18 sz74 rfl rfl rfl (by intro u hu; simp only [List.mem_cons, List.not_mem_nil, or_false] at hu; rcases hu with rfl | rfl | rfl | rfl | rfl <;> first | rfl | exact Rd.one (((hL.at (d := lf0) (i := 1) (by omega)).cell).1.st H18) | exact Rd.one ((hL.at (d := lf0) (i := 1) (by omega)).rd.st H18)) (by simp [*])) ?_
  rintro _ w19 H20'
  have H20 : St w _ [[(g16, Rw 74 ([I ((ls.getD 1 lf0).n), I (((ls.getD 1 lf0).cell).c.k), .string (bst (((ls.getD 1 lf0).cell).c.key)), ((ls.getD 1 lf0).cell).v, (ls.getD 1 lf0).pv]))], _, _] w19 := H20'
  refine c_nil ?_
  refine n_then ?_
  refine c_seq ?_
  refine c_reg ?_
  refine sy (v := I (kind)) (y_move rfl) ?_
  refine sy (v := .string (bst key)) (y_move rfl) ?_
  refine sy (v := Ad (bs g16) (0 + 1)) (y_fld Try.underlying74 rfl rfl sz48 (by decide) rfl) ?_
  refine sy (v := Ad (bs g16) ((0 + 1) + 0)) (y_fld Try.underlying48 rfl rfl sz3 (by decide) rfl) ?_
  refine sy (v := I (((ls.getD 1 lf0).cell).c.k)) (y_load sc3 rfl (H20.cell 0 rfl rfl)) ?_
  refine sy (v := Ad (bs g16) (0 + 1)) (y_fld Try.underlying74 rfl rfl sz48 (by decide) rfl) ?_
  refine sy (v := Ad (bs g16) ((0 + 1) + 1)) (y_fld Try.underlying48 rfl rfl sz9 (by decide) rfl) ?_
  refine sy (v := .string (bst (((ls.getD 1 lf0).cell).c.key))) (y_load sc9 rfl (H20.cell 0 rfl rfl)) ?_
  refine st (ow_call fn84 rfl (ahead_c (kind) (key) (((ls.getD 1 lf0).cell).c.k) (((ls.getD 1 lf0).cell).c.key) _) ⟨rfl, rfl, rfl, rfl, trivial⟩) ?_
  rintro _ w21 ⟨rfl, hB22⟩
  have H23 : St w _ [_, _, _] w21 := H20.call hB22
  refine sy (v := .bool (decide (ahead kind key (((ls.getD 1 lf0).cell).c.k) (((ls.getD 1 lf0).cell).c.key)))) (y_assign rfl) ?_
  refine c_nil ?_
  refine n_then ?_
  refine c_seq ?_
  refine c_seq ?_
  refine c_reg ?_
  refine sy (v := .bool (decide (ahead (((ls.getD 0 lf0).cell).c.k) (((ls.getD 0 lf0).cell).c.key) kind key))) (y_move rfl) ?_
  refine sy (v := .bool (decide (ahead (((ls.getD 0 lf0).cell).c.k) (((ls.getD 0 lf0).cell).c.key) kind key))) (y_move rfl) ?_
  by_cases hp24 : ahead (((ls.getD 0 lf0).cell).c.k) (((ls.getD 0 lf0).cell).c.key) kind key
  ·
   refine gsy (v := .bool (decide (ahead kind key (((ls.getD 1 lf0).cell).c.k) (((ls.getD 1 lf0).cell).c.key)))) (gv_of (t := 52) rfl rfl rfl) (decide_eq_true hp24) (y_move rfl) ?_
   refine sy (v := .bool (decide (ahead kind key (((ls.getD 1 lf0).cell).c.k) (((ls.getD 1 lf0).cell).c.key)))) (y_pickT rfl (decide_eq_true hp24) rfl) ?_
   refine sy (v := .bool (decide (ahead kind key (((ls.getD 1 lf0).cell).c.k) (((ls.getD 1 lf0).cell).c.key)))) (y_move rfl) ?_
   by_cases hp25 : ahead kind key (((ls.getD 1 lf0).cell).c.k) (((ls.getD 1 lf0).cell).c.key)
   ·
    refine gsy (v := Ad (bs g16) (0 + 0)) (gv_of (t := 55) rfl rfl rfl) (decide_eq_true hp25) (y_fld Try.underlying74 rfl rfl sz3 (by decide) rfl) ?_
    refine gsy (v := I ((ls.getD 1 lf0).n)) (gv_of (t := 55) rfl rfl rfl) (decide_eq_true hp25) (y_load sc3 rfl (H23.cell 0 rfl rfl)) ?_
    refine gsy (v := Ad (bs g4) (0 + 0)) (gv_of (t := 55) rfl rfl rfl) (decide_eq_true hp25) (y_fld Try.underlying74 rfl rfl sz3 (by decide) rfl) ?_
    refine gsy (v := I ((ls.getD 0 lf0).n)) (gv_of (t := 55) rfl rfl rfl) (decide_eq_true hp25) (y_load sc3 rfl (H23.cell 1 rfl rfl)) ?_
    refine gsy (v := I (((ls.getD 0 lf0).n) + ((1 : Nat) : Int))) (gv_of (t := 55) rfl rfl rfl) (decide_eq_true hp25) (y_add (i := ((ls.getD 0 lf0).n)) (j := ((1 : Nat) : Int)) rfl rfl (by omega)) ?_
    refine gsy (v := .bool (decide (((ls.getD 1 lf0).n) = (((ls.getD 0 lf0).n) + ((1 : Nat) : Int))))) (gv_of (t := 55) rfl rfl rfl) (decide_eq_true hp25) (y_eqlK (i := ((ls.getD 1 lf0).n)) (j := (((ls.getD 0 lf0).n) + ((1 : Nat) : Int))) rfl rfl) ?_
    refine sy (v := .bool (decide (((ls.getD 1 lf0).n) = (((ls.getD 0 lf0).n) + ((1 : Nat) : Int))))) (y_pickT rfl (decide_eq_true hp25) rfl) ?_
    refine c_nil ?_
    refine n_then ?_
    refine c_if rfl (fun hc26 => ?_) (fun hc26 => ?_)
    ·
     refine c_seq ?_
     refine c_reg ?_
     refine sy (v := I ((0 : Nat) : Int)) (y_assign (v := I ((0 : Nat) : Int)) rfl) ?_
     refine c_nil ?_
     refine n_then ?_
     refine wp_ret ?_
     refine r_then (r_then ?_)
     refine e_r1 Try.results132 (rv_t rfl) ?_
     have hs1 := says_two (kind := kind) (key := key) (n := n) (ls := ls) (by omega)
     have hpn0 : plcC (ls.getD 0 lf0).cell.c.k (ls.getD 0 lf0).cell.c.key kind key < 0 := plc_neg.2 hp24
     have hpp1 : 0 < plcC (ls.getD 1 lf0).cell.c.k (ls.getD 1 lf0).cell.c.key kind key := plc_pos.2 hp25
     have hsa : saysA kind key n (PE ls) = 0 := by
      rw [hs1]; repeat' split
      all_goals first | rfl | (exfalso; omega)
     exact ⟨_, rfl, by rw [hsa]; rfl, H23.below⟩
    ·
     refine wp_skip ?_
     refine n_then ?_
     refine c_seq ?_
     refine c_reg ?_
     refine sy (v := I (-1)) (y_assign (v := I (-1)) rfl) ?_
     refine c_nil ?_
     refine n_then ?_
     refine wp_ret ?_
     refine r_then ?_
     refine e_r1 Try.results132 (rv_t rfl) ?_
     have hs1 := says_two (kind := kind) (key := key) (n := n) (ls := ls) (by omega)
     have hpn0 : plcC (ls.getD 0 lf0).cell.c.k (ls.getD 0 lf0).cell.c.key kind key < 0 := plc_neg.2 hp24
     have hpp1 : 0 < plcC (ls.getD 1 lf0).cell.c.k (ls.getD 1 lf0).cell.c.key kind key := plc_pos.2 hp25
     have hsa : saysA kind key n (PE ls) = -1 := by
      rw [hs1]; repeat' split
      all_goals first | rfl | (exfalso; omega)
     exact ⟨_, rfl, by rw [hsa]; rfl, H23.below⟩
   ·
    refine gno (gv_of (t := 55) rfl rfl rfl) (decide_eq_false hp25) ?_
    refine gno (gv_of (t := 55) rfl rfl rfl) (decide_eq_false hp25) ?_
    refine gno (gv_of (t := 55) rfl rfl rfl) (decide_eq_false hp25) ?_
    refine gno (gv_of (t := 55) rfl rfl rfl) (decide_eq_false hp25) ?_
    refine gno (gv_of (t := 55) rfl rfl rfl) (decide_eq_false hp25) ?_
    refine gno (gv_of (t := 55) rfl rfl rfl) (decide_eq_false hp25) ?_
    refine sy (v := .bool (false)) (y_pickF (v := .bool (false)) rfl (decide_eq_false hp25) rfl) ?_
    refine c_nil ?_
    refine n_then ?_
    refine c_f rfl rfl ?_
    refine wp_skip ?_
    refine n_then ?_
    refine c_seq ?_
    refine c_reg ?_
    refine sy (v := I (-1)) (y_assign (v := I (-1)) rfl) ?_
    refine c_nil ?_
    refine n_then ?_
    refine wp_ret ?_
    refine r_then ?_
    refine e_r1 Try.results132 (rv_t rfl) ?_
    have hs1 := says_two (kind := kind) (key := key) (n := n) (ls := ls) (by omega)
    have hpn0 : plcC (ls.getD 0 lf0).cell.c.k (ls.getD 0 lf0).cell.c.key kind key < 0 := plc_neg.2 hp24
    have hpp1 : ¬ 0 < plcC (ls.getD 1 lf0).cell.c.k (ls.getD 1 lf0).cell.c.key kind key := fun h => hp25 (plc_pos.1 h)
    have hsa : saysA kind key n (PE ls) = -1 := by
     rw [hs1]; repeat' split
     all_goals first | rfl | (exfalso; omega)
    exact ⟨_, rfl, by rw [hsa]; rfl, H23.below⟩
  ·
   refine gno (gv_of (t := 52) rfl rfl rfl) (decide_eq_false hp24) ?_
   refine sy (v := .bool (false)) (y_pickF (v := .bool (false)) rfl (decide_eq_false hp24) rfl) ?_
   refine sy (v := .bool (false)) (y_move rfl) ?_
   refine gno (t := false) (b := true) (gv_of (t := 55) rfl rfl rfl) (rfl) ?_
   refine gno (t := false) (b := true) (gv_of (t := 55) rfl rfl rfl) (rfl) ?_
   refine gno (t := false) (b := true) (gv_of (t := 55) rfl rfl rfl) (rfl) ?_
   refine gno (t := false) (b := true) (gv_of (t := 55) rfl rfl rfl) (rfl) ?_
   refine gno (t := false) (b := true) (gv_of (t := 55) rfl rfl rfl) (rfl) ?_
   refine gno (t := false) (b := true) (gv_of (t := 55) rfl rfl rfl) (rfl) ?_
   refine sy (v := .bool (false)) (y_pickF (v := .bool (false)) rfl (rfl) rfl) ?_
   refine c_nil ?_
   refine n_then ?_
   refine c_f rfl rfl ?_
   refine wp_skip ?_
   refine n_then ?_
   refine c_seq ?_
   refine c_reg ?_
   refine sy (v := I (-1)) (y_assign (v := I (-1)) rfl) ?_
   refine c_nil ?_
   refine n_then ?_
   refine wp_ret ?_
   refine r_then ?_
   refine e_r1 Try.results132 (rv_t rfl) ?_
   have hs1 := says_two (kind := kind) (key := key) (n := n) (ls := ls) (by omega)
   have hpn0 : ¬ plcC (ls.getD 0 lf0).cell.c.k (ls.getD 0 lf0).cell.c.key kind key < 0 := fun h => hp24 (plc_neg.1 h)
   have hsa : saysA kind key n (PE ls) = -1 := by
    rw [hs1]; repeat' split
    all_goals first | rfl | (exfalso; omega)
   exact ⟨_, rfl, by rw [hsa]; rfl, H23.below⟩
 ·
  refine wp_skip ?_
  refine n_then ?_
  refine c_seq ?_
  refine wp_block ?_
  refine c_seq ?_
  refine c_reg ?_
  refine sy (v := .bool (decide (ahead (((ls.getD 0 lf0).cell).c.k) (((ls.getD 0 lf0).cell).c.key) kind key))) (y_move rfl) ?_
  refine sy (v := .bool (decide (¬ (ahead (((ls.getD 0 lf0).cell).c.k) (((ls.getD 0 lf0).cell).c.key) kind key)))) (y_notP rfl) ?_
  refine sy (v := .bool (decide (¬ (ahead (((ls.getD 0 lf0).cell).c.k) (((ls.getD 0 lf0).cell).c.key) kind key)))) (y_move rfl) ?_
  by_cases hp27 : ¬ (ahead (((ls.getD 0 lf0).cell).c.k) (((ls.getD 0 lf0).cell).c.key) kind key)
  ·
   refine gsy (v := .bool (decide (ahead kind key (((ls.getD 0 lf0).cell).c.k) (((ls.getD 0 lf0).cell).c.key)))) (gv_of (t := 66) rfl rfl rfl) (decide_eq_true hp27) (y_move rfl) ?_
   refine gsy (v := .bool (decide (¬ (ahead kind key (((ls.getD 0 lf0).cell).c.k) (((ls.getD 0 lf0).cell).c.key))))) (gv_of (t := 66) rfl rfl rfl) (decide_eq_true hp27) (y_notP rfl) ?_
   refine sy (v := .bool (decide (¬ (ahead kind key (((ls.getD 0 lf0).cell).c.k) (((ls.getD 0 lf0).cell).c.key))))) (y_pickT rfl (decide_eq_true hp27) rfl) ?_
   refine sy (v := .bool (decide (¬ (ahead kind key (((ls.getD 0 lf0).cell).c.k) (((ls.getD 0 lf0).cell).c.key))))) (y_assign rfl) ?_
   refine c_nil ?_
   refine n_then ?_
   refine c_if rfl (fun hc28 => ?_) (fun hc28 => ?_)
   ·
    refine c_seq ?_
    refine c_reg ?_
    refine sy (v := I ((1 : Nat) : Int)) (y_assign (v := I ((1 : Nat) : Int)) rfl) ?_
    refine c_nil ?_
    refine n_then ?_
    refine wp_ret ?_
    refine r_block (r_then ?_)
    refine e_r1 Try.results132 (rv_t rfl) ?_
    have hs1 := (says_one (kind := kind) (key := key) (n := n) (ls := ls) (by omega)).1
    have hpn0 : ¬ plcC (ls.getD 0 lf0).cell.c.k (ls.getD 0 lf0).cell.c.key kind key < 0 := fun h => hp27 (plc_neg.1 h)
    have hpp0 : ¬ 0 < plcC (ls.getD 0 lf0).cell.c.k (ls.getD 0 lf0).cell.c.key kind key := fun h => hc28 (plc_pos.1 h)
    have hsa : saysA kind key n (PE ls) = 1 := by
     rw [hs1]; repeat' split
     all_goals first | rfl | (exfalso; omega)
    exact ⟨_, rfl, by rw [hsa]; rfl, H14.below⟩
   ·
    refine c_seq ?_
    refine c_seq ?_
    refine c_reg ?_
    refine sy (v := .bool (decide (ahead kind key (((ls.getD 0 lf0).cell).c.k) (((ls.getD 0 lf0).cell).c.key)))) (y_move rfl) ?_
    refine sy (v := .bool (decide (ahead kind key (((ls.getD 0 lf0).cell).c.k) (((ls.getD 0 lf0).cell).c.key)))) (y_move rfl) ?_
    refine gsy (v := Ad (bs g4) (0 + 0)) (gv_of (t := 72) rfl rfl rfl) (decide_eq_true (Classical.not_not.1 hc28)) (y_fld Try.underlying74 rfl rfl sz3 (by decide) rfl) ?_
    refine gsy (v := I ((ls.getD 0 lf0).n)) (gv_of (t := 72) rfl rfl rfl) (decide_eq_true (Classical.not_not.1 hc28)) (y_load sc3 rfl (H14.cell 0 rfl rfl)) ?_
    refine gsy (v := .bool (decide (((ls.getD 0 lf0).n) = ((0 : Nat) : Int)))) (gv_of (t := 72) rfl rfl rfl) (decide_eq_true (Classical.not_not.1 hc28)) (y_eqlK (i := ((ls.getD 0 lf0).n)) (j := ((0 : Nat) : Int)) rfl rfl) ?_
    refine sy (v := .bool (decide (((ls.getD 0 lf0).n) = ((0 : Nat) : Int)))) (y_pickT rfl (decide_eq_true (Classical.not_not.1 hc28)) rfl) ?_
    refine sy (v := .bool (decide (((ls.getD 0 lf0).n) = ((0 : Nat) : Int)))) (y_assign rfl) ?_
    refine c_nil ?_
    refine n_then ?_
    refine c_if rfl (fun hc29 => ?_) (fun hc29 => ?_)
    ·
     refine wp_skip ?_
     refine n_then ?_
     refine c_t rfl (decide_eq_true hc29) ?_
     refine c_seq ?_
     refine c_reg ?_
     refine sy (v := I ((0 : Nat) : Int)) (y_assign (v := I ((0 : Nat) : Int)) rfl) ?_
     refine c_nil ?_
     refine n_then ?_
     refine wp_ret ?_
     refine r_block (r_then ?_)
     refine e_r1 Try.results132 (rv_t rfl) ?_
     have hs1 := (says_one (kind := kind) (key := key) (n := n) (ls := ls) (by omega)).1
     have hpn0 : ¬ plcC (ls.getD 0 lf0).cell.c.k (ls.getD 0 lf0).cell.c.key kind key < 0 := fun h => hp27 (plc_neg.1 h)
     have hpp0 : 0 < plcC (ls.getD 0 lf0).cell.c.k (ls.getD 0 lf0).cell.c.key kind key := plc_pos.2 (Classical.not_not.1 hc28)
     have hsa : saysA kind key n (PE ls) = 0 := by
      rw [hs1]; repeat' split
      all_goals first | rfl | (exfalso; omega)
     exact ⟨_, rfl, by rw [hsa]; rfl, H14.below⟩
    ·
     refine c_reg ?_
     refine sy (v := .bool (decide (ahead (((ls.getD 0 lf0).cell).c.k) (((ls.getD 0 lf0).cell).c.key) kind key))) (y_move rfl) ?_
     refine sy (v := .bool (decide (ahead (((ls.getD 0 lf0).cell).c.k) (((ls.getD 0 lf0).cell).c.key) kind key))) (y_move rfl) ?_
     refine gno (gv_of (t := 78) rfl rfl rfl) (decide_eq_false hp27) ?_
     refine gno (gv_of (t := 78) rfl rfl rfl) (decide_eq_false hp27) ?_
     refine gno (gv_of (t := 78) rfl rfl rfl) (decide_eq_false hp27) ?_
     refine gno (gv_of (t := 78) rfl rfl rfl) (decide_eq_false hp27) ?_
     refine gno (gv_of (t := 78) rfl rfl rfl) (decide_eq_false hp27) ?_
     refine gno (gv_of (t := 78) rfl rfl rfl) (decide_eq_false hp27) ?_
     refine sy (v := .bool (false)) (y_pickF (v := .bool (false)) rfl (decide_eq_false hp27) rfl) ?_
     refine sy (v := .bool (false)) (y_assign rfl) ?_
     refine c_nil ?_
     refine n_then ?_
     refine c_f rfl rfl ?_
     refine wp_skip ?_
     refine n_block (n_then ?_)
     refine c_seq ?_
     refine c_reg ?_
     refine sy (v := I (-1)) (y_assign (v := I (-1)) rfl) ?_
     refine c_nil ?_
     refine n_then ?_
     refine wp_ret ?_
     refine e_r1 Try.results132 (rv_t rfl) ?_
     have hs1 := (says_one (kind := kind) (key := key) (n := n) (ls := ls) (by omega)).1
     have hpn0 : ¬ plcC (ls.getD 0 lf0).cell.c.k (ls.getD 0 lf0).cell.c.key kind key < 0 := fun h => hp27 (plc_neg.1 h)
     have hpp0 : 0 < plcC (ls.getD 0 lf0).cell.c.k (ls.getD 0 lf0).cell.c.key kind key := plc_pos.2 (Classical.not_not.1 hc28)
     have hsa : saysA kind key n (PE ls) = -1 := by
      rw [hs1]; repeat' split
      all_goals first | rfl | (exfalso; omega)
     exact ⟨_, rfl, by rw [hsa]; rfl, H14.below⟩
  ·
   refine gno (gv_of (t := 66) rfl rfl rfl) (decide_eq_false hp27) ?_
   refine gno (gv_of (t := 66) rfl rfl rfl) (decide_eq_false hp27) ?_
   refine sy (v := .bool (false)) (y_pickF (v := .bool (false)) rfl (decide_eq_false hp27) rfl) ?_
   refine sy (v := .bool (false)) (y_assign rfl) ?_
   refine c_nil ?_
   refine n_then ?_
   refine c_f rfl rfl ?_
   refine c_seq ?_
   refine c_seq ?_
   refine c_reg ?_
   refine sy (v := .bool (decide (ahead kind key (((ls.getD 0 lf0).cell).c.k) (((ls.getD 0 lf0).cell).c.key)))) (y_move rfl) ?_
   refine sy (v := .bool (decide (ahead kind key (((ls.getD 0 lf0).cell).c.k) (((ls.getD 0 lf0).cell).c.key)))) (y_move rfl) ?_
   by_cases hp30 : ahead kind key (((ls.getD 0 lf0).cell).c.k) (((ls.getD 0 lf0).cell).c.key)
   ·
    refine gsy (v := Ad (bs g4) (0 + 0)) (gv_of (t := 72) rfl rfl rfl) (decide_eq_true hp30) (y_fld Try.underlying74 rfl rfl sz3 (by decide) rfl) ?_
    refine gsy (v := I ((ls.getD 0 lf0).n)) (gv_of (t := 72) rfl rfl rfl) (decide_eq_true hp30) (y_load sc3 rfl (H14.cell 0 rfl rfl)) ?_
    refine gsy (v := .bool (decide (((ls.getD 0 lf0).n) = ((0 : Nat) : Int)))) (gv_of (t := 72) rfl rfl rfl) (decide_eq_true hp30) (y_eqlK (i := ((ls.getD 0 lf0).n)) (j := ((0 : Nat) : Int)) rfl rfl) ?_
    refine sy (v := .bool (decide (((ls.getD 0 lf0).n) = ((0 : Nat) : Int)))) (y_pickT rfl (decide_eq_true hp30) rfl) ?_
    refine sy (v := .bool (decide (((ls.getD 0 lf0).n) = ((0 : Nat) : Int)))) (y_assign rfl) ?_
    refine c_nil ?_
    refine n_then ?_
    refine c_if rfl (fun hc31 => ?_) (fun hc31 => ?_)
    ·
     refine wp_skip ?_
     refine n_then ?_
     refine c_t rfl (decide_eq_true hc31) ?_
     refine c_seq ?_
     refine c_reg ?_
     refine sy (v := I ((0 : Nat) : Int)) (y_assign (v := I ((0 : Nat) : Int)) rfl) ?_
     refine c_nil ?_
     refine n_then ?_
     refine wp_ret ?_
     refine r_block (r_then ?_)
     refine e_r1 Try.results132 (rv_t rfl) ?_
     have hs1 := (says_one (kind := kind) (key := key) (n := n) (ls := ls) (by omega)).1
     have hpn0 : plcC (ls.getD 0 lf0).cell.c.k (ls.getD 0 lf0).cell.c.key kind key < 0 := plc_neg.2 (Classical.not_not.1 hp27)
     have hpp0 : 0 < plcC (ls.getD 0 lf0).cell.c.k (ls.getD 0 lf0).cell.c.key kind key := plc_pos.2 hp30
     have hsa : saysA kind key n (PE ls) = 0 := by
      rw [hs1]; repeat' split
      all_goals first | rfl | (exfalso; omega)
     exact ⟨_, rfl, by rw [hsa]; rfl, H14.below⟩
    ·
     refine c_reg ?_
     refine sy (v := .bool (decide (ahead (((ls.getD 0 lf0).cell).c.k) (((ls.getD 0 lf0).cell).c.key) kind key))) (y_move rfl) ?_
     refine sy (v := .bool (decide (ahead (((ls.getD 0 lf0).cell).c.k) (((ls.getD 0 lf0).cell).c.key) kind key))) (y_move rfl) ?_
     refine gsy (v := Ad (bs g4) (0 + 0)) (gv_of (t := 78) rfl rfl rfl) (decide_eq_true (Classical.not_not.1 hp27)) (y_fld Try.underlying74 rfl rfl sz3 (by decide) rfl) ?_
     refine gsy (v := I ((ls.getD 0 lf0).n)) (gv_of (t := 78) rfl rfl rfl) (decide_eq_true (Classical.not_not.1 hp27)) (y_load sc3 rfl (H14.cell 0 rfl rfl)) ?_
     refine gsy (v := Ad (bs g1) (0 + 0)) (gv_of (t := 78) rfl rfl rfl) (decide_eq_true (Classical.not_not.1 hp27)) (y_fld Try.underlying41 rfl rfl sz3 (by decide) rfl) ?_
     refine gsy (v := I (n)) (gv_of (t := 78) rfl rfl rfl) (decide_eq_true (Classical.not_not.1 hp27)) (y_load sc3 rfl (H14.cell 1 rfl rfl)) ?_
     refine gsy (v := I (n - ((1 : Nat) : Int))) (gv_of (t := 78) rfl rfl rfl) (decide_eq_true (Classical.not_not.1 hp27)) (y_sub (i := n) (j := ((1 : Nat) : Int)) rfl rfl (by omega)) ?_
     refine gsy (v := .bool (decide (((ls.getD 0 lf0).n) = (n - ((1 : Nat) : Int))))) (gv_of (t := 78) rfl rfl rfl) (decide_eq_true (Classical.not_not.1 hp27)) (y_eqlK (i := ((ls.getD 0 lf0).n)) (j := (n - ((1 : Nat) : Int))) rfl rfl) ?_
     refine sy (v := .bool (decide (((ls.getD 0 lf0).n) = (n - ((1 : Nat) : Int))))) (y_pickT rfl (decide_eq_true (Classical.not_not.1 hp27)) rfl) ?_
     refine sy (v := .bool (decide (((ls.getD 0 lf0).n) = (n - ((1 : Nat) : Int))))) (y_assign rfl) ?_
     refine c_nil ?_
     refine n_then ?_
     refine c_if rfl (fun hc32 => ?_) (fun hc32 => ?_)
     ·
      refine c_seq ?_
      refine c_reg ?_
      refine sy (v := I ((0 : Nat) : Int)) (y_assign (v := I ((0 : Nat) : Int)) rfl) ?_
      refine c_nil ?_
      refine n_then ?_
      refine wp_ret ?_
      refine r_block (r_then ?_)
      refine e_r1 Try.results132 (rv_t rfl) ?_
      have hs1 := (says_one (kind := kind) (key := key) (n := n) (ls := ls) (by omega)).1
      have hpn0 : plcC (ls.getD 0 lf0).cell.c.k (ls.getD 0 lf0).cell.c.key kind key < 0 := plc_neg.2 (Classical.not_not.1 hp27)
      have hpp0 : 0 < plcC (ls.getD 0 lf0).cell.c.k (ls.getD 0 lf0).cell.c.key kind key := plc_pos.2 hp30
      have hsa : saysA kind key n (PE ls) = 0 := by
       rw [hs1]; repeat' split
       all_goals first | rfl | (exfalso; omega)
      exact ⟨_, rfl, by rw [hsa]; rfl, H14.below⟩
     ·
      refine wp_skip ?_
      refine n_block (n_then ?_)
      refine c_seq ?_
      refine c_reg ?_
      refine sy (v := I (-1)) (y_assign (v := I (-1)) rfl) ?_
      refine c_nil ?_
      refine n_then ?_
      refine wp_ret ?_
      refine e_r1 Try.results132 (rv_t rfl) ?_
      have hs1 := (says_one (kind := kind) (key := key) (n := n) (ls := ls) (by omega)).1
      have hpn0 : plcC (ls.getD 0 lf0).cell.c.k (ls.getD 0 lf0).cell.c.key kind key < 0 := plc_neg.2 (Classical.not_not.1 hp27)
      have hpp0 : 0 < plcC (ls.getD 0 lf0).cell.c.k (ls.getD 0 lf0).cell.c.key kind key := plc_pos.2 hp30
      have hsa : saysA kind key n (PE ls) = -1 := by
       rw [hs1]; repeat' split
       all_goals first | rfl | (exfalso; omega)
      exact ⟨_, rfl, by rw [hsa]; rfl, H14.below⟩
   ·
    refine gno (gv_of (t := 72) rfl rfl rfl) (decide_eq_false hp30) ?_
    refine gno (gv_of (t := 72) rfl rfl rfl) (decide_eq_false hp30) ?_
    refine gno (gv_of (t := 72) rfl rfl rfl) (decide_eq_false hp30) ?_
    refine sy (v := .bool (false)) (y_pickF (v := .bool (false)) rfl (decide_eq_false hp30) rfl) ?_
    refine sy (v := .bool (false)) (y_assign rfl) ?_
    refine c_nil ?_
    refine n_then ?_
    refine c_f rfl rfl ?_
    refine c_reg ?_
    refine sy (v := .bool (decide (ahead (((ls.getD 0 lf0).cell).c.k) (((ls.getD 0 lf0).cell).c.key) kind key))) (y_move rfl) ?_
    refine sy (v := .bool (decide (ahead (((ls.getD 0 lf0).cell).c.k) (((ls.getD 0 lf0).cell).c.key) kind key))) (y_move rfl) ?_
    refine gsy (v := Ad (bs g4) (0 + 0)) (gv_of (t := 78) rfl rfl rfl) (decide_eq_true (Classical.not_not.1 hp27)) (y_fld Try.underlying74 rfl rfl sz3 (by decide) rfl) ?_
    refine gsy (v := I ((ls.getD 0 lf0).n)) (gv_of (t := 78) rfl rfl rfl) (decide_eq_true (Classical.not_not.1 hp27)) (y_load sc3 rfl (H14.cell 0 rfl rfl)) ?_
    refine gsy (v := Ad (bs g1) (0 + 0)) (gv_of (t := 78) rfl rfl rfl) (decide_eq_true (Classical.not_not.1 hp27)) (y_fld Try.underlying41 rfl rfl sz3 (by decide) rfl) ?_
    refine gsy (v := I (n)) (gv_of (t := 78) rfl rfl rfl) (decide_eq_true (Classical.not_not.1 hp27)) (y_load sc3 rfl (H14.cell 1 rfl rfl)) ?_
    refine gsy (v := I (n - ((1 : Nat) : Int))) (gv_of (t := 78) rfl rfl rfl) (decide_eq_true (Classical.not_not.1 hp27)) (y_sub (i := n) (j := ((1 : Nat) : Int)) rfl rfl (by omega)) ?_
    refine gsy (v := .bool (decide (((ls.getD 0 lf0).n) = (n - ((1 : Nat) : Int))))) (gv_of (t := 78) rfl rfl rfl) (decide_eq_true (Classical.not_not.1 hp27)) (y_eqlK (i := ((ls.getD 0 lf0).n)) (j := (n - ((1 : Nat) : Int))) rfl rfl) ?_
    refine sy (v := .bool (decide (((ls.getD 0 lf0).n) = (n - ((1 : Nat) : Int))))) (y_pickT rfl (decide_eq_true (Classical.not_not.1 hp27)) rfl) ?_
    refine sy (v := .bool (decide (((ls.getD 0 lf0).n) = (n - ((1 : Nat) : Int))))) (y_assign rfl) ?_
    refine c_nil ?_
    refine n_then ?_
    refine c_if rfl (fun hc33 => ?_) (fun hc33 => ?_)
    ·
     refine c_seq ?_
     refine c_reg ?_
     refine sy (v := I ((0 : Nat) : Int)) (y_assign (v := I ((0 : Nat) : Int)) rfl) ?_
     refine c_nil ?_
     refine n_then ?_
     refine wp_ret ?_
     refine r_block (r_then ?_)
     refine e_r1 Try.results132 (rv_t rfl) ?_
     have hs1 := (says_one (kind := kind) (key := key) (n := n) (ls := ls) (by omega)).1
     have hpn0 : plcC (ls.getD 0 lf0).cell.c.k (ls.getD 0 lf0).cell.c.key kind key < 0 := plc_neg.2 (Classical.not_not.1 hp27)
     have hpp0 : ¬ 0 < plcC (ls.getD 0 lf0).cell.c.k (ls.getD 0 lf0).cell.c.key kind key := fun h => hp30 (plc_pos.1 h)
     have hsa : saysA kind key n (PE ls) = 0 := by
      rw [hs1]; repeat' split
      all_goals first | rfl | (exfalso; omega)
     exact ⟨_, rfl, by rw [hsa]; rfl, H14.below⟩
    ·
     refine wp_skip ?_
     refine n_block (n_then ?_)
     refine c_seq ?_
     refine c_reg ?_
     refine sy (v := I (-1)) (y_assign (v := I (-1)) rfl) ?_
     refine c_nil ?_
     refine n_then ?_
     refine wp_ret ?_
     refine e_r1 Try.results132 (rv_t rfl) ?_
     have hs1 := (says_one (kind := kind) (key := key) (n := n) (ls := ls) (by omega)).1
     have hpn0 : plcC (ls.getD 0 lf0).cell.c.k (ls.getD 0 lf0).cell.c.key kind key < 0 := plc_neg.2 (Classical.not_not.1 hp27)
     have hpp0 : ¬ 0 < plcC (ls.getD 0 lf0).cell.c.k (ls.getD 0 lf0).cell.c.key kind key := fun h => hp30 (plc_pos.1 h)
     have hsa : saysA kind key n (PE ls) = -1 := by
      rw [hs1]; repeat' split
      all_goals first | rfl | (exfalso; omega)
     exact ⟨_, rfl, by rw [hsa]; rfl, H14.below⟩

end Go.Proofs.Ytdcmbcjkdhdohaa
