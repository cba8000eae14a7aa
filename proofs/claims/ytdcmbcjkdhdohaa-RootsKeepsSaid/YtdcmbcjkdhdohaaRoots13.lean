/- The walk of roots.Find. -/
import Derived.Test.YtdcmbcjkdhdohaaRoots12
namespace Go.Proofs.Ytdcmbcjkdhdohaa
open Go Go.RowKit
set_option linter.unusedSimpArgs false
set_option linter.unusedVariables false
attribute [local irreducible] wpList wpP Code.wp

theorem st_notin {w w0 : World} {X : List Nat} {E : Part} {L : List Part} {i g : Nat} {o : Obj} (H : St w0 X (E :: L) w) (hi : L[i]? = some [(g, o)]) : g ∉ E.map (·.1) := by
  intro hm
  obtain ⟨q, hq, e⟩ := List.mem_map.1 hm
  exact (List.pairwise_cons.1 H.dj).1 _ (List.mem_of_getElem? hi) q hq (g, o) (by simp) e
theorem leaves_hit {kind : Int} {key : List UInt8} {cs : List Cl} {p : Nat} (h : hitAt kind key (PL cs) p) : leavesAt kind key (PL cs) p = PE [] ++ (if 0 ≤ (p : Int) ∧ (p : Int) < (cs.length : Int) then [leafAt (PL cs) (p : Int).toNat] else []) := by
  have h1 := h.1
  rw [List.length_map] at h1
  unfold leavesAt
  rw [if_pos h, if_pos ⟨by omega, by omega⟩, Int.toNat_natCast]; rfl
theorem leaves_miss {kind : Int} {key : List UInt8} {cs : List Cl} {p : Nat} (h : ¬ hitAt kind key (PL cs) p) (hp : p ≤ cs.length) : leavesAt kind key (PL cs) p =
    (PE [] ++ (if 0 ≤ (p : Int) - 1 ∧ (p : Int) - 1 < (cs.length : Int) then [leafAt (PL cs) ((p : Int) - 1).toNat] else [])) ++ (if 0 ≤ (p : Int) ∧ (p : Int) < (cs.length : Int) then [leafAt (PL cs) (p : Int).toNat] else []) := by
  unfold leavesAt
  rw [if_neg h, Int.toNat_natCast, List.length_map, show ((p : Int) - 1).toNat = p - 1 by omega]
  have e1 : (0 < p) = (0 ≤ (p : Int) - 1 ∧ (p : Int) - 1 < (cs.length : Int)) := propext ⟨fun h => ⟨by omega, by omega⟩, fun h => by omega⟩
  have e2 : (p < cs.length) = (0 ≤ (p : Int) ∧ (p : Int) < (cs.length : Int)) := propext ⟨fun h => ⟨by omega, by omega⟩, fun h => by omega⟩
  simp only [e1, e2, PE, List.map_nil, List.nil_append]

attribute [local irreducible] leafH innerH topH rootH rootA sha checkA

set_option maxHeartbeats 2000000 in
set_option maxRecDepth 20000 in
theorem find_step (pa : Option Addr) (pc : Nat) (kind : Int) (key : List UInt8) (cs : List Cl) (w : World) (hC : CsR [] w (.slice pa cs.length pc) cs) :
    Calls Try.prog 37 (([(.slice pa cs.length pc), I (kind), .string (bst key)] : List Value).toArray) w (fun e w' => ∃ v, e = .returned v ∧ ∃ (n' : Nat) (lv : Value) (ls : List Lf) (err : Nat) (EB : Part), v = .tuple #[.agg ([I ((n' : Nat) : Int), lv] : List Value).toArray, I ((err : Nat) : Int)] ∧ FindsA kind key (PL cs) n' (PE ls) err ∧ LsP lv ls EB ∧ St w [] [EB] w') := by
 have hle := hC.le
 refine calls_mk Try.func37 rfl 47 Try.ntmps37 rfl ?_
 have H0 : St w [] [] w := St.refl w
 refine c_seq ?_
 refine c_reg ?_
 refine st (ow_box (l := [(.slice pa cs.length pc)]) H0 rfl rfl) ?_
 rintro _ w2 ⟨g1, rfl, H3⟩
 refine st (ow_box (l := [I (kind)]) H3 rfl rfl) ?_
 rintro _ w5 ⟨g4, rfl, H6⟩
 refine st (ow_box (l := [.string (bst key)]) H6 rfl rfl) ?_
 rintro _ w8 ⟨g7, rfl, H9⟩
 refine st (ow_alloc (l := [I ((0 : Nat) : Int), .slice none 0 0]) H9 zr41 rfl) ?_
 rintro _ w11 ⟨g10, rfl, H12⟩
 refine sy (v := I ((0 : Nat) : Int)) (y_assign (v := I ((0 : Nat) : Int)) rfl) ?_
 refine c_nil ?_
 refine n_then ?_
 refine c_seq ?_
 refine c_seq ?_
 refine c_reg ?_
 refine sy (v := I (kind)) (y_load sc3 rfl (H12.cell 2 rfl rfl)) ?_
 refine st (ow_call fn86 rfl (known_c (kind) _) ⟨rfl, trivial⟩) ?_
 rintro _ w13 ⟨rfl, hB14⟩
 have H15 : St w _ [_, _, _, _] w13 := H12.call hB14
 refine sy (v := .bool (decide (¬ (kMay kind)))) (y_notP rfl) ?_
 refine c_nil ?_
 refine n_then ?_
 refine c_if rfl (fun hc16 => ?_) (fun hc16 => ?_)
 ·
  refine c_seq ?_
  refine c_reg ?_
  refine sy (v := .agg ([I ((0 : Nat) : Int), .slice none 0 0]).toArray) (y_build (parts := []) (pv := []) (us := [I ((0 : Nat) : Int), .slice none 0 0]) trivial (by kernel_rfl)) ?_
  refine s0 (ow_storeW (us := [I ((0 : Nat) : Int), .slice none 0 0]) H15 sz41 rfl rfl rfl (by simp [Value.oneCell']) (by simp [*])) ?_
  rintro _ w17 H18'
  have H18 : St w _ [[(g10, Rw 41 ([I ((0 : Nat) : Int), .slice none 0 0]))], _, _, _] w17 := H18'
  refine sy (v := I ((40 : Nat) : Int)) (y_assign (v := I ((40 : Nat) : Int)) rfl) ?_
  refine c_nil ?_
  refine n_then ?_
  refine wp_ret ?_
  refine r_then ?_
  refine e_r2 Try.results37 (rv_b H18 (i := 0) rfl ag41 sz41 rfl rfl) (rv_t rfl) ?_
  exact ⟨_, rfl, 0, _, [], 40, _, rfl, .inl ⟨by assumption, rfl, rfl, rfl⟩, LsP.nil, (H18.take 0 rfl).nilp⟩
 ·
  refine wp_skip ?_
  refine n_then ?_
  refine c_seq ?_
  refine c_seq ?_
  refine c_reg ?_
  refine sy (v := (.slice pa cs.length pc)) (y_load sc38 rfl (H15.cell 3 rfl rfl)) ?_
  refine st (ow_call fn81 rfl (right_c19 ((.slice pa cs.length pc)) (cs) _ (hC.st H15).nil) ⟨rfl, trivial⟩) ?_
  rintro _ w19 ⟨rfl, hB20⟩
  have H21 : St w _ [_, _, _, _] w19 := H15.call hB20
  refine sy (v := I ((wrong (cs.map (fun q : Cl => q.c)) : Nat) : Int)) (y_assign rfl) ?_
  refine c_nil ?_
  refine n_then ?_
  refine c_seq ?_
  refine c_reg ?_
  refine sy (v := I ((wrong (cs.map (fun q : Cl => q.c)) : Nat) : Int)) (y_move rfl) ?_
  refine sy (v := .bool (decide ((wrong (cs.map (fun q : Cl => q.c))) ≠ 0))) (n_neq (a := wrong (cs.map (fun q : Cl => q.c))) (b := 0) rfl rfl) ?_
  refine c_nil ?_
  refine n_then ?_
  refine c_if rfl (fun hc22 => ?_) (fun hc22 => ?_)
  ·
   refine c_seq ?_
   refine c_reg ?_
   refine sy (v := .agg ([I ((0 : Nat) : Int), .slice none 0 0]).toArray) (y_build (parts := []) (pv := []) (us := [I ((0 : Nat) : Int), .slice none 0 0]) trivial (by kernel_rfl)) ?_
   refine sy (v := I ((wrong (cs.map (fun q : Cl => q.c)) : Nat) : Int)) (y_move rfl) ?_
   refine s0 (ow_storeW (us := [I ((0 : Nat) : Int), .slice none 0 0]) H21 sz41 rfl rfl rfl (by simp [Value.oneCell']) (by simp [*])) ?_
   rintro _ w23 H24'
   have H24 : St w _ [[(g10, Rw 41 ([I ((0 : Nat) : Int), .slice none 0 0]))], _, _, _] w23 := H24'
   refine sy (v := I ((wrong (cs.map (fun q : Cl => q.c)) : Nat) : Int)) (y_assign rfl) ?_
   refine c_nil ?_
   refine n_then ?_
   refine wp_ret ?_
   refine r_then ?_
   refine e_r2 Try.results37 (rv_b H24 (i := 0) rfl ag41 sz41 rfl rfl) (rv_t rfl) ?_
   exact ⟨_, rfl, 0, _, [], _, _, rfl, .inr (.inl ⟨by first | assumption | exact Decidable.not_not.1 (by assumption), by assumption, rfl, rfl, rfl⟩), LsP.nil, (H24.take 0 rfl).nilp⟩
  ·
   refine wp_skip ?_
   refine n_then ?_
   refine c_seq ?_
   have hwr : wrong (PL cs) = 0 := Decidable.not_not.1 (show ¬ ¬ (wrong (PL cs) = 0) by assumption)
   have hkm : kMay kind := by first | assumption | exact Decidable.not_not.1 (by assumption)
   refine c_reg ?_
   refine sy (v := (.slice pa cs.length pc)) (y_load sc38 rfl (H21.cell 3 rfl rfl)) ?_
   refine sy (v := I ((cs.length : Nat) : Int)) (y_lenR Try.underlying38 (hC.st H21).rd rfl) ?_
   refine sy (v := .agg ([I ((cs.length : Nat) : Int), .slice none 0 0]).toArray) (y_build (pv := [(0, I ((cs.length : Nat) : Int))]) (us := [I ((cs.length : Nat) : Int), .slice none 0 0]) ⟨⟨rfl, rfl⟩, trivial⟩ (by kernel_rfl)) ?_
   refine st (ow_alloc (l := [I ((0 : Nat) : Int), .slice none 0 0]) H21 zr41 rfl) ?_
   rintro _ w26 ⟨g25, rfl, H27⟩
   refine s0 (ow_storeW (us := [I ((cs.length : Nat) : Int), .slice none 0 0]) H27 sz41 rfl rfl rfl (by simp [Value.oneCell']) (by simp [*])) ?_
   rintro _ w28 H29'
   have H29 : St w _ [[(g25, Rw 41 ([I ((cs.length : Nat) : Int), .slice none 0 0]))], _, _, _, _] w28 := H29'
   refine c_nil ?_
   refine n_then ?_
   refine c_seq ?_
   refine c_reg ?_
   refine sy (v := .func (.func 91) #[] (#[Ad (bs g1) (0), Ad (bs g25) (0)] : Array Value)) (y_makeFunc (cs := [Ad (bs g1) (0), Ad (bs g25) (0)]) ⟨rfl, rfl, trivial⟩) ?_
   refine sy (v := .func (.func 91) #[] (#[Ad (bs g1) (0), Ad (bs g25) (0)] : Array Value)) (y_assign rfl) ?_
   refine c_nil ?_
   refine n_then ?_
   refine c_seq ?_
   refine c_reg ?_
   refine sy (v := (.slice pa cs.length pc)) (y_load sc38 rfl (H29.cell 4 rfl rfl)) ?_
   refine sy (v := .agg ([I ((0 : Nat) : Int), .string .empty, .slice none 0 0]).toArray) (y_build (parts := []) (pv := []) (us := [I ((0 : Nat) : Int), .string (.empty), .slice none 0 0]) trivial (by kernel_rfl)) ?_
   refine sy (v := .func (.func 94) #[] (#[Ad (bs g4) (0), Ad (bs g7) (0)] : Array Value)) (y_makeFunc (cs := [Ad (bs g4) (0), Ad (bs g7) (0)]) ⟨rfl, rfl, trivial⟩) ?_
   refine st (ow_call fn93 rfl (search_c g4 g7 kind key (.slice pa cs.length pc) cs _ (hC.st H29).nil hwr (H29.get 3 rfl) (H29.get 2 rfl)) ⟨rfl, rfl, rfl, trivial⟩) ?_
   rintro _ w31 ⟨p30, rfl, hI33, hB32⟩
   have H34 : St w _ [_, _, _, _, _] w31 := H29.call hB32
   have hpl : p30 ≤ cs.length := by have := hI33.1; rwa [List.length_map] at this
   refine sy (v := .tuple #[I ((p30 : Nat) : Int), .bool (decide (hitAt kind key (PL cs) p30))]) (y_move rfl) ?_
   refine sy (v := I ((p30 : Nat) : Int)) (y_extract (i := 0) rfl rfl) ?_
   refine sy (v := .bool (decide (hitAt kind key (PL cs) p30))) (y_extract (i := 1) rfl rfl) ?_
   refine sy (v := I ((p30 : Nat) : Int)) (y_assign rfl) ?_
   refine sy (v := .bool (decide (hitAt kind key (PL cs) p30))) (y_assign rfl) ?_
   refine c_nil ?_
   refine n_then ?_
   refine c_seq ?_
   refine c_seq ?_
   refine c_reg ?_
   refine sy (v := .bool (decide (hitAt kind key (PL cs) p30))) (y_move rfl) ?_
   refine c_nil ?_
   refine n_then ?_
   refine c_if rfl (fun hc35 => ?_) (fun hc35 => ?_)
   ·
    refine c_seq ?_
    refine c_reg ?_
    refine sy (v := .func (.func 91) #[] (#[Ad (bs g1) (0), Ad (bs g25) (0)] : Array Value)) (y_move rfl) ?_
    refine sy (v := I ((p30 : Nat) : Int)) (y_move rfl) ?_
    refine st (ow_callC (args := [I ((p30 : Nat) : Int)]) (cap := [Ad (bs g1) (0), Ad (bs g25) (0)]) fn91 rfl (lay_c g1 g25 (.slice pa cs.length pc) cs (((cs.length : Nat)) : Int) ([] : List Lf) [(g25, Rw 41 ([I ((cs.length : Nat) : Int), .slice none 0 0]))] ((p30 : Nat) : Int) _ (wit_new g25 (((cs.length : Nat)) : Int)) (fun p hp => H34.own _ List.mem_cons_self p hp) (H34.get 4 rfl) (st_notin (i := 3) H34 rfl) (hC.awayX H34) (by first | omega | (simp only [List.length_nil] at *; omega))) ⟨rfl, trivial⟩) ?_
    rintro _ w38 ⟨rfl, ls36, EW37, hW40, hl41, hp42, H39⟩
    have H43 : St w _ [_, _, _, _, _] w38 := H34.appE H39
    refine c_nil ?_
    refine n_then ?_
    refine c_seq ?_
    refine c_reg ?_
    obtain ⟨lv44, EB45, rfl, hls46, hd47⟩ := hW40
    have H48 : St w _ [_, _, _, _, _, _] w38 := H43.split hd47
    refine sy (v := .agg ([I ((cs.length : Nat) : Int), lv44]).toArray) (y_loadA (us := [I ((cs.length : Nat) : Int), lv44]) ag41 sz41 rfl rfl (fun j u hu => (H48.cell 1 rfl (by rw [Nat.zero_add]; exact hu)))) ?_
    have H49 : St w _ [_, _, _, _, _, _] w38 := H48.foc 2 rfl rfl
    refine s0 (ow_storeW (us := [I ((cs.length : Nat) : Int), lv44]) H49 sz41 rfl rfl rfl (by intro u hu; simp only [List.mem_cons, List.not_mem_nil, or_false] at hu; rcases hu with rfl | rfl <;> first | rfl | exact Rd.one (LsP.rd hls46 H49 1 rfl).rd) (by simp [*])) ?_
    rintro _ w50 H51'
    have H51 : St w _ [[(g10, Rw 41 ([I ((cs.length : Nat) : Int), lv44]))], _, _, _, _, _] w50 := H51'
    refine sy (v := I ((0 : Nat) : Int)) (y_assign (v := I ((0 : Nat) : Int)) rfl) ?_
    refine c_nil ?_
    refine n_then ?_
    refine wp_ret ?_
    refine r_then ?_
    refine e_r2 Try.results37 (rv_b H51 (i := 0) rfl ag41 sz41 rfl rfl) (rv_t rfl) ?_
    have H52 : St w _ [_, _, _, _, _, _] w50 := H51.foc 1 rfl rfl
    have H53 : St w _ [_] w50 := H52.take 1 rfl
    have hls : PE ls36 = leavesAt kind key (PL cs) p30 := by
     rw [leaves_hit hc35, hp42]
    exact ⟨_, rfl, _, _, ls36, 0, _, rfl, .inr (.inr ⟨hkm, hwr, (List.length_map _).symm, rfl, p30, hI33, hls⟩), hls46, H53⟩
   ·
    refine wp_skip ?_
    refine n_then ?_
    refine c_seq ?_
    refine c_reg ?_
    refine sy (v := .func (.func 91) #[] (#[Ad (bs g1) (0), Ad (bs g25) (0)] : Array Value)) (y_move rfl) ?_
    refine sy (v := I ((p30 : Nat) : Int)) (y_move rfl) ?_
    refine sy (v := I (((p30 : Nat) : Int) - 1)) (y_sub (i := ((p30 : Nat) : Int)) (j := ((1 : Nat) : Int)) rfl rfl (by omega)) ?_
    refine st (ow_callC (args := [I (((p30 : Nat) : Int) - 1)]) (cap := [Ad (bs g1) (0), Ad (bs g25) (0)]) fn91 rfl (lay_c g1 g25 (.slice pa cs.length pc) cs (((cs.length : Nat)) : Int) ([] : List Lf) [(g25, Rw 41 ([I ((cs.length : Nat) : Int), .slice none 0 0]))] (((p30 : Nat) : Int) - 1) _ (wit_new g25 (((cs.length : Nat)) : Int)) (fun p hp => H34.own _ List.mem_cons_self p hp) (H34.get 4 rfl) (st_notin (i := 3) H34 rfl) (hC.awayX H34) (by first | omega | (simp only [List.length_nil] at *; omega))) ⟨rfl, trivial⟩) ?_
    rintro _ w56 ⟨rfl, ls54, EW55, hW58, hl59, hp60, H57⟩
    have H61 : St w _ [_, _, _, _, _] w56 := H34.appE H57
    refine c_nil ?_
    refine n_then ?_
    refine c_seq ?_
    refine c_reg ?_
    refine sy (v := .func (.func 91) #[] (#[Ad (bs g1) (0), Ad (bs g25) (0)] : Array Value)) (y_move rfl) ?_
    refine sy (v := I ((p30 : Nat) : Int)) (y_move rfl) ?_
    refine st (ow_callC (args := [I ((p30 : Nat) : Int)]) (cap := [Ad (bs g1) (0), Ad (bs g25) (0)]) fn91 rfl (lay_c g1 g25 (.slice pa cs.length pc) cs (((cs.length : Nat)) : Int) ls54 EW55 ((p30 : Nat) : Int) _ hW58 (fun p hp => H61.own _ List.mem_cons_self p hp) (H61.get 4 rfl) (st_notin (i := 3) H61 rfl) (hC.awayX H61) (by first | omega | (simp only [List.length_nil] at *; omega))) ⟨rfl, trivial⟩) ?_
    rintro _ w64 ⟨rfl, ls62, EW63, hW66, hl67, hp68, H65⟩
    have H69 : St w _ [_, _, _, _, _] w64 := H61.appE H65
    refine c_nil ?_
    refine n_then ?_
    refine c_seq ?_
    refine c_reg ?_
    obtain ⟨lv70, EB71, rfl, hls72, hd73⟩ := hW66
    have H74 : St w _ [_, _, _, _, _, _] w64 := H69.split hd73
    refine sy (v := .agg ([I ((cs.length : Nat) : Int), lv70]).toArray) (y_loadA (us := [I ((cs.length : Nat) : Int), lv70]) ag41 sz41 rfl rfl (fun j u hu => (H74.cell 1 rfl (by rw [Nat.zero_add]; exact hu)))) ?_
    have H75 : St w _ [_, _, _, _, _, _] w64 := H74.foc 2 rfl rfl
    refine s0 (ow_storeW (us := [I ((cs.length : Nat) : Int), lv70]) H75 sz41 rfl rfl rfl (by intro u hu; simp only [List.mem_cons, List.not_mem_nil, or_false] at hu; rcases hu with rfl | rfl <;> first | rfl | exact Rd.one (LsP.rd hls72 H75 1 rfl).rd) (by simp [*])) ?_
    rintro _ w76 H77'
    have H77 : St w _ [[(g10, Rw 41 ([I ((cs.length : Nat) : Int), lv70]))], _, _, _, _, _] w76 := H77'
    refine sy (v := I ((0 : Nat) : Int)) (y_assign (v := I ((0 : Nat) : Int)) rfl) ?_
    refine c_nil ?_
    refine n_then ?_
    refine wp_ret ?_
    refine e_r2 Try.results37 (rv_b H77 (i := 0) rfl ag41 sz41 rfl rfl) (rv_t rfl) ?_
    have H78 : St w _ [_, _, _, _, _, _] w76 := H77.foc 1 rfl rfl
    have H79 : St w _ [_] w76 := H78.take 1 rfl
    have hls : PE ls62 = leavesAt kind key (PL cs) p30 := by
     rw [leaves_miss hc35 hpl, hp68, hp60]
    exact ⟨_, rfl, _, _, ls62, 0, _, rfl, .inr (.inr ⟨hkm, hwr, (List.length_map _).symm, rfl, p30, hI33, hls⟩), hls72, H79⟩

theorem find_c (kind : Int) (key : List UInt8) (v0 : Value) (cs : List Cl) (w : World) (hC : CsR [] w v0 cs) :
    Calls Try.prog 37 (([v0, I kind, .string (bst key)] : List Value).toArray) w (fun e w' => ∃ v, e = .returned v ∧ ∃ (n' : Nat) (lv : Value) (ls : List Lf) (err : Nat) (EB : Part), v = .tuple #[.agg ([I ((n' : Nat) : Int), lv] : List Value).toArray, I ((err : Nat) : Int)] ∧ FindsA kind key (PL cs) n' (PE ls) err ∧ LsP lv ls EB ∧ St w [] [EB] w') := by
  obtain ⟨pa, pc, rfl, -⟩ := hC.rd.shape
  exact find_step pa pc kind key cs w hC

end Go.Proofs.Ytdcmbcjkdhdohaa
