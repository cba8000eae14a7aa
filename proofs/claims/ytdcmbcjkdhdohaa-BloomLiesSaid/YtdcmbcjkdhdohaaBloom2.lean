/- Walks: bloom.Of, and the fixed calls of the laws of layer 6. -/
import Derived.Test.YtdcmbcjkdhdohaaBloom1
namespace Go.Proofs.Ytdcmbcjkdhdohaa
open Go Go.RowKit
attribute [local irreducible] wpList wpP Code.wp

def setBit (b : List UInt8) (p : Nat) : List UInt8 := b.set (p / 8) (b.getD (p / 8) 0 ||| 1 <<< UInt8.ofNat (p % 8))
def addH (x : UInt64) (z : Nat) (b : List UInt8) (h : List UInt8) : List UInt8 := (plc (dg x h) z).foldl setBit b
def bof (x : UInt64) (hs : List (List UInt8)) (z : Nat) : List UInt8 := hs.foldl (addH x z) (List.replicate z 0)
def bloomOf (x : UInt64) (hs : List (List UInt8)) : List UInt8 := bof x hs (bsz hs.length)
theorem setBits_length : ∀ (l : List Nat) (b : List UInt8), (l.foldl setBit b).length = b.length
  | [], b => rfl
  | p :: l, b => by rw [List.foldl_cons, setBits_length l]; simp [setBit]
theorem addHs_length (x : UInt64) (z : Nat) : ∀ (hs : List (List UInt8)) (b : List UInt8), (hs.foldl (addH x z) b).length = b.length
  | [], b => rfl
  | h :: hs, b => by rw [List.foldl_cons, addHs_length x z hs]; exact setBits_length _ _
@[simp] theorem bof_length (x : UInt64) (hs : List (List UInt8)) (z : Nat) : (bof x hs z).length = z := by rw [bof, addHs_length, List.length_replicate]
@[simp] theorem bloomOf_length (x : UInt64) (hs : List (List UInt8)) : (bloomOf x hs).length = bsz hs.length := bof_length ..
theorem foldl_take {α β : Type} (f : β → α → β) (b : β) {l : List α} {i : Nat} (d : α) (hi : i < l.length) : (l.take (i + 1)).foldl f b = f ((l.take i).foldl f b) (l.getD i d) := by
  rw [List.take_add_one, List.getElem?_eq_getElem hi, List.foldl_append, List.getD_eq_getElem?_getD, List.getElem?_eq_getElem hi]; rfl
theorem getD_len {hs : List (List UInt8)} (hh : ∀ h ∈ hs, h.length = 32) {i : Nat} (hi : i < hs.length) : (hs.getD i []).length = 32 := by
  rw [List.getD_eq_getElem?_getD, List.getElem?_eq_getElem hi]; exact hh _ (List.getElem_mem hi)
theorem flat_get : ∀ {hs : List (List UInt8)} (_ : ∀ h ∈ hs, h.length = 32) {i j : Nat} {u : Value}, i < hs.length → ((hs.getD i []).map B8)[j]? = some u → (hs.flatten.map B8)[i * 32 + j]? = some u
  | [], _, _, _, _, hi, _ => absurd hi (by simp)
  | h :: hs, hh, 0, j, u, _, hu => by
    have hu' : (h.map B8)[j]? = some u := hu
    have hj := (List.getElem?_eq_some_iff.1 hu').1
    rw [List.flatten_cons, List.map_append, Nat.zero_mul, Nat.zero_add, List.getElem?_append_left hj]
    exact hu'
  | h :: hs, hh, i + 1, j, u, hi, hu => by
    have hl : (h.map B8).length = 32 := by rw [List.length_map]; exact hh h (by simp)
    rw [List.flatten_cons, List.map_append, List.getElem?_append_right (by omega), hl, show (i + 1) * 32 + j - 32 = i * 32 + j by omega]
    exact flat_get (fun q hq => hh q (by simp [hq])) (by simpa using hi) hu
theorem rdh_nil {w : World} : Rd [] w 32 (.slice none 0 0) ([] : List (List UInt8)).length (([] : List (List UInt8)).flatten.map B8) := ⟨rfl, ⟨_, _, rfl, Nat.le_refl _, by simp [maxLen]⟩, by simp, by simp⟩
theorem getD_plc {s : List UInt8} {z k : Nat} (hz : 0 < z) (hk : k < 4) : (plc s z).getD k 0 < 8 * z := by
  rw [List.getD_eq_getElem?_getD, List.getElem?_eq_getElem (by rw [plc_length]; omega)]; exact plc_lt hz _ (List.getElem_mem _)

theorem of55_c (x : UInt64) (v1 : Value) (hs : List (List UInt8)) (w : World) (hH : Rd [] w 32 v1 hs.length (hs.flatten.map B8)) (hh : ∀ h ∈ hs, h.length = 32) (hlen : hs.length ≤ 9223372036854775807) :
    Calls Try.prog 55 (([U64 (x), v1] : List Value).toArray) w (fun e w' => ∃ v, e = .returned v ∧ ∃ g, v = .slice (some (bs g)) (bsz hs.length) (bsz hs.length) ∧ St w [] [[(g, Rw 5 ((bloomOf x hs).map B8))]] w') := by
  have hok := okS_bsz hs.length
  have hz8 := okS_le hok
  have hbl := bof_length x hs (bsz hs.length)
  refine calls_mk Try.func55 rfl 43 Try.ntmps55 rfl ?_
  have H0 : St w [] [] w := St.refl w
  refine c_seq ?_
  refine c_reg ?_
  refine sy (v := .slice none 0 0) (y_assign (v := .slice none 0 0) rfl) ?_
  refine c_nil ?_
  refine n_then ?_
  refine c_seq ?_
  refine c_reg ?_
  refine sy (v := v1) (y_move rfl) ?_
  refine sy (v := I ((hs.length : Nat) : Int)) (y_lenR Try.underlying72 (hH.st H0) rfl) ?_
  refine st (ow_call fn68 rfl (size_c hs.length _ (by omega)) ⟨rfl, trivial⟩) ?_
  rintro _ w1 ⟨rfl, hB2⟩
  have H3 : St w [] [] w1 := H0.call hB2
  refine st (ow_make (l := bsz hs.length) (c := bsz hs.length) Try.underlying23 sz5 zr5 bt5 rfl H3 rfl rfl (by omega) (by omega) (by omega)) ?_
  rintro _ w5 ⟨g4, rfl, H6'⟩
  have H6 : St w [] [[(g4, Rw 5 ((List.replicate (bsz hs.length) 0).map B8))]] w5 := H6'.eq1 (by rw [Nat.mul_one, made_rep rfl]; first | rfl | exact (List.map_replicate (f := B8) (a := 0)).symm)
  refine sy (v := .slice (some (bs g4)) (bsz hs.length) (bsz hs.length)) (y_assign rfl) ?_
  refine c_nil ?_
  refine n_then ?_
  refine c_seq ?_
  refine c_seq ?_
  refine c_reg ?_
  refine sy (v := v1) (y_move rfl) ?_
  refine sy (v := I ((hs.length : Nat) : Int)) (y_lenR Try.underlying72 (hH.st H6) rfl) ?_
  refine sy (v := I ((0 : Nat) : Int)) (y_move (v := I ((0 : Nat) : Int)) rfl) ?_
  refine c_nil ?_
  refine n_then ?_
  refine wp_block ?_
  refine c_loop (fun (i : Nat) f7 w8 => f7 0 = U64 (x) ∧ f7 5 = .slice (some (bs g4)) (bsz hs.length) (bsz hs.length) ∧ f7 14 = v1 ∧ f7 15 = I ((hs.length : Nat) : Int) ∧ f7 16 = I ((i : Nat) : Int) ∧ i ≤ hs.length ∧ St w [] [[(g4, Rw 5 ((bof x (hs.take i) (bsz hs.length)).map B8))]] w8) (fun i => hs.length - i) 0 ⟨rfl, rfl, rfl, rfl, rfl, (by omega), H6⟩ ?_
  rintro i f7 w8 ⟨s0_9, s5_9, s14_9, s15_9, s16_9, hf0_9, H9⟩
  refine c_seq ?_
  refine c_reg ?_
  refine sy (v := .bool (decide (i < hs.length))) (n_lss (a := i) (b := hs.length) s16_9 s15_9) ?_
  refine c_nil ?_
  refine n_then ?_
  refine c_seq ?_
  refine c_if rfl (fun hc10 => ?_) (fun hc10 => ?_)
  · skip
    refine wp_skip ?_
    refine n_then ?_
    refine c_seq ?_
    refine wp_block ?_
    refine c_seq ?_
    refine c_reg ?_
    refine sy (v := Ad (sp (v1)) (i * 32)) (y_ixR (m := i) Try.underlying72 sz26 (hH.st H9) (by decide) s14_9 s16_9 rfl (by omega)) ?_
    refine sy (v := .agg ((hs.getD i []).map B8).toArray) (y_loadA (us := (hs.getD i []).map B8) ag26 sz26 ((List.length_map _).trans (getD_len hh (by omega))) rfl (fun j u hu => (hH.st H9).cell _ _ (flat_get hh (by omega) hu))) ?_
    refine st (ow_alloc (l := (List.replicate 32 0).map B8) H9 zr26 (by simp [Value.cells])) ?_
    rintro _ w12 ⟨g11, rfl, H13⟩
    refine s0 (ow_storeW (us := (hs.getD i []).map B8) H13 sz26 ((List.length_map _).trans (getD_len hh (by omega))) rfl rfl (map_one (F := B8) (fun _ => rfl) _) ((List.length_map _).trans List.length_replicate)) ?_
    rintro _ w14 H15'
    have H15 : St w [] [[(g11, Rw 26 ((hs.getD i []).map B8))], [(g4, Rw 5 ((bof x (hs.take i) (bsz hs.length)).map B8))]] w14 := H15'
    refine c_nil ?_
    refine n_then ?_
    refine c_seq ?_
    refine c_reg ?_
    refine sy (v := U64 (x)) (y_move s0_9) ?_
    refine sy (v := .agg ((hs.getD i []).map B8).toArray) (y_loadA (us := (hs.getD i []).map B8) ag26 sz26 ((List.length_map _).trans (getD_len hh (by omega))) rfl (fun j u hu => (H15.cell 0 rfl (by rw [Nat.zero_add]; exact hu)))) ?_
    refine sy (v := .slice (some (bs g4)) (bsz hs.length) (bsz hs.length)) (y_move s5_9) ?_
    refine sy (v := I ((bsz hs.length : Nat) : Int)) (y_len Try.underlying23 rfl) ?_
    refine st (ow_call fn42 rfl (places_c (x) (hs.getD i []) (bsz hs.length) _ (getD_len hh (by omega)) hok) ⟨rfl, rfl, rfl, trivial⟩) ?_
    rintro v16 w17 ⟨E18, ho19, H20⟩
    have H21 : St w [] [E18, [(g11, Rw 26 ((hs.getD i []).map B8))], [(g4, Rw 5 ((bof x (hs.take i) (bsz hs.length)).map B8))]] w17 := H15.app H20
    refine sy (v := I (((plc (dg (x) (hs.getD i [])) (bsz hs.length)).length : Nat) : Int)) (y_lenR Try.underlying60 (ho19.rd H21 0 rfl) rfl) ?_
    refine sy (v := I ((0 : Nat) : Int)) (y_move (v := I ((0 : Nat) : Int)) rfl) ?_
    refine c_nil ?_
    refine n_then ?_
    refine wp_block ?_
    refine c_loop (fun (k : Nat) f22 w23 => f22 0 = U64 (x) ∧ f22 5 = .slice (some (bs g4)) (bsz hs.length) (bsz hs.length) ∧ f22 14 = v1 ∧ f22 15 = I ((hs.length : Nat) : Int) ∧ f22 16 = I ((i : Nat) : Int) ∧ f22 24 = v16 ∧ f22 25 = I (((plc (dg (x) (hs.getD i [])) (bsz hs.length)).length : Nat) : Int) ∧ f22 26 = I ((k : Nat) : Int) ∧ k ≤ 4 ∧ St w [] [E18, [(g11, Rw 26 ((hs.getD i []).map B8))], [(g4, Rw 5 ((((plc (dg x (hs.getD i [])) (bsz hs.length)).take k).foldl setBit (bof x (hs.take i) (bsz hs.length))).map B8))]] w23) (fun k => 4 - k) 0 ⟨s0_9, s5_9, s14_9, s15_9, s16_9, rfl, rfl, rfl, (by omega), H21⟩ ?_
    rintro k f22 w23 ⟨s0_24, s5_24, s14_24, s15_24, s16_24, s24_24, s25_24, s26_24, hf0_24, H24⟩
    have hpl : (plc (dg x (hs.getD i [])) (bsz hs.length)).length = 4 := plc_length _ _
    have hsl : (((plc (dg x (hs.getD i [])) (bsz hs.length)).take k).foldl setBit (bof x (hs.take i) (bsz hs.length))).length = bsz hs.length := (setBits_length _ _).trans (bof_length _ _ _)
    refine c_seq ?_
    refine c_reg ?_
    refine sy (v := .bool (decide (k < ((plc (dg (x) (hs.getD i [])) (bsz hs.length)).length)))) (n_lss (a := k) (b := (plc (dg (x) (hs.getD i [])) (bsz hs.length)).length) s26_24 s25_24) ?_
    refine c_nil ?_
    refine n_then ?_
    refine c_seq ?_
    refine c_if rfl (fun hc25 => ?_) (fun hc25 => ?_)
    · skip
      have hpk := getD_plc (s := dg x (hs.getD i [])) (z := bsz hs.length) (k := k) (by omega) (by omega)
      refine wp_skip ?_
      refine n_then ?_
      refine c_seq ?_
      refine wp_block ?_
      refine c_seq ?_
      refine c_reg ?_
      refine sy (v := Ad (sp (v16)) (k * 1)) (y_ixR (m := k) Try.underlying60 sz3 (ho19.rd H24 0 rfl) (by decide) s24_24 s26_24 rfl (by omega)) ?_
      refine sy (v := I (((plc (dg (x) (hs.getD i [])) (bsz hs.length)).getD k 0 : Nat) : Int)) (y_load sc3 rfl ((ho19.rd H24 0 rfl).cell _ _ (by rw [Nat.mul_one]; exact map_get IN 0 (by omega)))) ?_
      refine sy (v := I (((plc (dg (x) (hs.getD i [])) (bsz hs.length)).getD k 0 : Nat) : Int)) (y_assign rfl) ?_
      refine c_nil ?_
      refine n_then ?_
      refine drawS (.step 0 0 (.step 0 1 (.step 0 2 (.step 0 3 (.step 0 4 (.step 0 5 (.step 0 6 (.step 0 7 (.step 0 8 (.step 2 9 (.step 2 10 .nil))))))))))) mixed H24 (by kernel_rfl) (by kernel_rfl) (by kernel_rfl) ?_
      intro w26 H27
      refine pt (v := .slice (some (bs g4)) (bsz hs.length) (bsz hs.length)) rfl (fun wS HS => y_move s5_24) ?_
      refine pt (v := I (((plc (dg (x) (hs.getD i [])) (bsz hs.length)).getD k 0 : Nat) : Int)) rfl (fun wS HS => y_move rfl) ?_
      refine pt (v := I ((((plc (dg (x) (hs.getD i [])) (bsz hs.length)).getD k 0) / 8 : Nat) : Int)) rfl (fun wS HS => n_quo (a := (plc (dg (x) (hs.getD i [])) (bsz hs.length)).getD k 0) (b := 8) rfl rfl (by omega) (by omega)) ?_
      refine pt (v := Ad (bs g4) ((((plc (dg (x) (hs.getD i [])) (bsz hs.length)).getD k 0) / 8) * 1)) rfl (fun wS HS => y_ixS (m := ((plc (dg (x) (hs.getD i [])) (bsz hs.length)).getD k 0) / 8) Try.underlying23 sz5 rfl rfl rfl (by omega)) ?_
      refine pt (v := B8 ((((plc (dg x (hs.getD i [])) (bsz hs.length)).take k).foldl setBit (bof x (hs.take i) (bsz hs.length))).getD (((plc (dg (x) (hs.getD i [])) (bsz hs.length)).getD k 0) / 8) 0)) rfl (fun wS HS => y_load sc5 rfl (HS.cell 2 rfl (by simp only [Nat.zero_add, Nat.mul_one]; exact map_get B8 0 (by omega)))) ?_
      refine pt (v := I (((plc (dg (x) (hs.getD i [])) (bsz hs.length)).getD k 0 : Nat) : Int)) rfl (fun wS HS => y_move rfl) ?_
      refine pt (v := I ((((plc (dg (x) (hs.getD i [])) (bsz hs.length)).getD k 0) % 8 : Nat) : Int)) rfl (fun wS HS => n_rem (a := (plc (dg (x) (hs.getD i [])) (bsz hs.length)).getD k 0) (b := 8) rfl rfl (by omega)) ?_
      refine pt (v := B8 (1 <<< UInt8.ofNat (((plc (dg (x) (hs.getD i [])) (bsz hs.length)).getD k 0) % 8))) rfl (fun wS HS => n_shl8 (m := ((plc (dg (x) (hs.getD i [])) (bsz hs.length)).getD k 0) % 8) (c := 1) rfl rfl (by omega)) ?_
      refine pt (v := B8 (((((plc (dg x (hs.getD i [])) (bsz hs.length)).take k).foldl setBit (bof x (hs.take i) (bsz hs.length))).getD (((plc (dg (x) (hs.getD i [])) (bsz hs.length)).getD k 0) / 8) 0) ||| (1 <<< UInt8.ofNat (((plc (dg (x) (hs.getD i [])) (bsz hs.length)).getD k 0) % 8)))) rfl (fun wS HS => y_or8 (a := (((plc (dg x (hs.getD i [])) (bsz hs.length)).take k).foldl setBit (bof x (hs.take i) (bsz hs.length))).getD (((plc (dg (x) (hs.getD i [])) (bsz hs.length)).getD k 0) / 8) 0) (b := 1 <<< UInt8.ofNat (((plc (dg (x) (hs.getD i [])) (bsz hs.length)).getD k 0) % 8)) rfl rfl) ?_
      refine tly (v := Ad (bs g4) ((((plc (dg (x) (hs.getD i [])) (bsz hs.length)).getD k 0) / 8) * 1)) rfl (y_ixS (m := ((plc (dg (x) (hs.getD i [])) (bsz hs.length)).getD k 0) / 8) Try.underlying23 sz5 rfl rfl rfl (by omega)) ?_
      have H28 : St w [] [[(g4, Rw 5 ((((plc (dg x (hs.getD i [])) (bsz hs.length)).take k).foldl setBit (bof x (hs.take i) (bsz hs.length))).map B8))], E18, [(g11, Rw 26 ((hs.getD i []).map B8))]] w26 := H27.foc 2 rfl rfl
      refine t0 rfl (ow_storeM (F := B8) (j := (((plc (dg (x) (hs.getD i [])) (bsz hs.length)).getD k 0) / 8)) (fun _ => rfl) H28 sz5 rfl rfl (by omega) (by first | omega | (simp only [List.length_set]; omega))) ?_
      rintro _ w29 H30'
      have H30 : St w [] [[(g4, Rw 5 (((((plc (dg x (hs.getD i [])) (bsz hs.length)).take k).foldl setBit (bof x (hs.take i) (bsz hs.length))).set (((plc (dg (x) (hs.getD i [])) (bsz hs.length)).getD k 0) / 8) (((((plc (dg x (hs.getD i [])) (bsz hs.length)).take k).foldl setBit (bof x (hs.take i) (bsz hs.length))).getD (((plc (dg (x) (hs.getD i [])) (bsz hs.length)).getD k 0) / 8) 0) ||| (1 <<< UInt8.ofNat (((plc (dg (x) (hs.getD i [])) (bsz hs.length)).getD k 0) % 8)))).map B8))], E18, [(g11, Rw 26 ((hs.getD i []).map B8))]] w29 := H30'
      refine p_nil ?_
      refine n_block (n_then ?_)
      refine c_reg ?_
      refine sy (v := I ((k + 1 : Nat) : Int)) (n_add (a := k) (b := 1) s26_24 rfl (by omega)) ?_
      refine sy (v := I ((k + 1 : Nat) : Int)) (y_move rfl) ?_
      refine c_nil ?_
      have H31 : St w [] [[(g11, Rw 26 ((hs.getD i []).map B8))], [(g4, Rw 5 (((((plc (dg x (hs.getD i [])) (bsz hs.length)).take k).foldl setBit (bof x (hs.take i) (bsz hs.length))).set (((plc (dg (x) (hs.getD i [])) (bsz hs.length)).getD k 0) / 8) (((((plc (dg x (hs.getD i [])) (bsz hs.length)).take k).foldl setBit (bof x (hs.take i) (bsz hs.length))).getD (((plc (dg (x) (hs.getD i [])) (bsz hs.length)).getD k 0) / 8) 0) ||| (1 <<< UInt8.ofNat (((plc (dg (x) (hs.getD i [])) (bsz hs.length)).getD k 0) % 8)))).map B8))], E18] w29 := H30.foc 2 rfl rfl
      have H32 : St w [] [E18, [(g11, Rw 26 ((hs.getD i []).map B8))], [(g4, Rw 5 (((((plc (dg x (hs.getD i [])) (bsz hs.length)).take k).foldl setBit (bof x (hs.take i) (bsz hs.length))).set (((plc (dg (x) (hs.getD i [])) (bsz hs.length)).getD k 0) / 8) (((((plc (dg x (hs.getD i [])) (bsz hs.length)).take k).foldl setBit (bof x (hs.take i) (bsz hs.length))).getD (((plc (dg (x) (hs.getD i [])) (bsz hs.length)).getD k 0) / 8) 0) ||| (1 <<< UInt8.ofNat (((plc (dg (x) (hs.getD i [])) (bsz hs.length)).getD k 0) % 8)))).map B8))]] w29 := H31.foc 2 rfl rfl
      exact lp_next (k + 1) ⟨s0_24, s5_24, s14_24, s15_24, s16_24, s24_24, s25_24, rfl, (by omega), (by rw [foldl_take _ _ 0 (by omega)]; exact H32)⟩ (by show _ < _; omega)
    · skip
      obtain rfl : k = 4 := by omega
      rw [show (plc (dg x (hs.getD i [])) (bsz hs.length)).take 4 = plc (dg x (hs.getD i [])) (bsz hs.length) from List.take_of_length_le (by omega)] at H24
      have H33 : St w [] [E18, [(g11, Rw 26 ((hs.getD i []).map B8))], [(g4, Rw 5 ((addH x (bsz hs.length) (bof x (hs.take i) (bsz hs.length)) (hs.getD i [])).map B8))]] w23 := H24
      refine wp_exit ?_
      refine x_then (x_then (x_hit (n_block (n_then ?_))))
      refine c_reg ?_
      refine sy (v := I ((i + 1 : Nat) : Int)) (n_add (a := i) (b := 1) s16_24 rfl (by omega)) ?_
      refine sy (v := I ((i + 1 : Nat) : Int)) (y_move rfl) ?_
      refine c_nil ?_
      have H34 : St w [] [[(g4, Rw 5 ((addH x (bsz hs.length) (bof x (hs.take i) (bsz hs.length)) (hs.getD i [])).map B8))], E18, [(g11, Rw 26 ((hs.getD i []).map B8))]] w23 := H33.foc 2 rfl rfl
      have H35 : St w [] [[(g4, Rw 5 ((addH x (bsz hs.length) (bof x (hs.take i) (bsz hs.length)) (hs.getD i [])).map B8))]] w23 := H34.take 1 rfl
      exact lp_next (i + 1) ⟨s0_24, s5_24, s14_24, s15_24, rfl, (by omega), (by unfold bof; rw [foldl_take _ _ [] (by omega)]; exact H35)⟩ (by show _ < _; omega)
  · skip
    obtain rfl : i = hs.length := by omega
    rw [List.take_of_length_le (Nat.le_refl _)] at H9
    have H36 : St w [] [[(g4, Rw 5 ((bloomOf x hs).map B8))]] w8 := H9
    refine wp_exit ?_
    refine x_then (x_then (x_hit (n_then ?_)))
    refine c_seq ?_
    refine c_reg ?_
    refine sy (v := .slice (some (bs g4)) (bsz hs.length) (bsz hs.length)) (y_move s5_9) ?_
    refine sy (v := .slice (some (bs g4)) (bsz hs.length) (bsz hs.length)) (y_assign rfl) ?_
    refine c_nil ?_
    refine n_then ?_
    refine wp_ret ?_
    refine e_r1 Try.results55 (rv_t rfl) ?_
    exact ⟨_, rfl, g4, rfl, H36⟩

theorem bfixed_c (w : World) :
    Calls Try.prog 31 (([] : List Value).toArray) w (fun e w' => ∃ v, e = .returned v ∧ v = .bool true ∧ Below w.heap.size w w') := by
  have hb0 : bsz ([] : List (List UInt8)).length = 8 := by decide
  refine calls_mk Try.func31 rfl 18 Try.ntmps31 rfl ?_
  have H0 : St w [] [] w := St.refl w
  refine c_seq ?_
  refine c_reg ?_
  refine sy (v := .bool (false)) (y_assign (v := .bool (false)) rfl) ?_
  refine c_nil ?_
  refine n_then ?_
  refine c_seq ?_
  refine c_reg ?_
  refine st (ow_call fn68 rfl (size_c 7 _ (by omega)) ⟨rfl, trivial⟩) ?_
  rintro _ w1 ⟨rfl, hB2⟩
  have H3 : St w [] [] w1 := H0.call hB2
  refine sy (v := I ((bsz 7 : Nat) : Int)) (y_assign rfl) ?_
  refine c_nil ?_
  refine n_then ?_
  refine c_seq ?_
  refine c_reg ?_
  refine st (ow_call fn55 rfl (of55_c (0) (.slice none 0 0) ([] : List (List UInt8)) _ rdh_nil (by simp) (by decide)) ⟨rfl, rfl, trivial⟩) ?_
  rintro _ w5 ⟨g4, rfl, H6⟩
  have H7 : St w [] [[(g4, Rw 5 ((bloomOf (0) ([] : List (List UInt8))).map B8))]] w5 := H3.app H6
  refine sy (v := .slice (some (bs g4)) (bsz ([] : List (List UInt8)).length) (bsz ([] : List (List UInt8)).length)) (y_assign rfl) ?_
  refine c_nil ?_
  refine n_then ?_
  refine c_seq ?_
  refine c_reg ?_
  refine sy (v := .slice (some (bs g4)) (bsz ([] : List (List UInt8)).length) (bsz ([] : List (List UInt8)).length)) (y_move rfl) ?_
  refine st (ow_call fn62 rfl (right_c (.slice (some (bs g4)) (bsz ([] : List (List UInt8)).length) (bsz ([] : List (List UInt8)).length)) (bloomOf (0) ([] : List (List UInt8))) _ ((rd_arr H7 0 rfl (bloomOf_length _ _) (by unfold maxLen; omega))).nil) ⟨rfl, trivial⟩) ?_
  rintro _ w8 ⟨rfl, hB9⟩
  have H10 : St w [] [[(g4, Rw 5 ((bloomOf (0) ([] : List (List UInt8))).map B8))]] w8 := H7.call hB9
  refine sy (v := .bool (decide (okS (((bloomOf (0) ([] : List (List UInt8))).length : Nat) : Int)))) (y_assign rfl) ?_
  refine c_nil ?_
  refine n_then ?_
  refine c_seq ?_
  refine c_reg ?_
  refine sy (v := I ((bsz 7 : Nat) : Int)) (y_move rfl) ?_
  refine sy (v := .bool (decide ((bsz 7) = 16))) (n_eql (a := bsz 7) (b := 16) rfl rfl) ?_
  refine sy (v := .bool (decide ((bsz 7) = 16))) (y_move rfl) ?_
  have hq11 : (bsz 7) = 16 := (by decide)
  refine gsy (v := .slice (some (bs g4)) (bsz ([] : List (List UInt8)).length) (bsz ([] : List (List UInt8)).length)) (gv_of (t := 10) rfl rfl rfl) (decide_eq_true hq11) (y_move rfl) ?_
  refine gsy (v := I ((bsz ([] : List (List UInt8)).length : Nat) : Int)) (gv_of (t := 10) rfl rfl rfl) (decide_eq_true hq11) (y_len Try.underlying23 rfl) ?_
  refine gsy (v := .bool (decide ((bsz ([] : List (List UInt8)).length) = 8))) (gv_of (t := 10) rfl rfl rfl) (decide_eq_true hq11) (n_eql (a := bsz ([] : List (List UInt8)).length) (b := 8) rfl rfl) ?_
  refine sy (v := .bool (decide ((bsz ([] : List (List UInt8)).length) = 8))) (y_pickT rfl (decide_eq_true hq11) rfl) ?_
  refine sy (v := .bool (decide ((bsz ([] : List (List UInt8)).length) = 8))) (y_move rfl) ?_
  have hq12 : (bsz ([] : List (List UInt8)).length) = 8 := (by decide)
  refine gsy (v := .bool (decide (okS (((bloomOf (0) ([] : List (List UInt8))).length : Nat) : Int)))) (gv_of (t := 15) rfl rfl rfl) (decide_eq_true hq12) (y_move rfl) ?_
  refine sy (v := .bool (decide (okS (((bloomOf (0) ([] : List (List UInt8))).length : Nat) : Int)))) (y_pickT rfl (decide_eq_true hq12) rfl) ?_
  refine sy (v := .bool (decide (okS (((bloomOf (0) ([] : List (List UInt8))).length : Nat) : Int)))) (y_assign rfl) ?_
  refine c_nil ?_
  refine n_then ?_
  refine wp_ret ?_
  refine e_r1 Try.results31 (rv_t rfl) ?_
  have hz : (.bool (decide (okS (((bloomOf (0) ([] : List (List UInt8))).length : Nat) : Int))) : Value) = .bool true := congrArg Value.bool (decide_eq_true (by rw [bloomOf_length]; exact okS_bsz _))
  exact ⟨_, rfl, hz, H10.below⟩

end Go.Proofs.Ytdcmbcjkdhdohaa
