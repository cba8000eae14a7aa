/- Walks: sha.New, (*sha.Digest).Write. -/
import Derived.Test.YtdcmbcjkdhdohaaSha1
import Derived.Test.YtdcmbcjkdhdohaaArr
namespace Go.Proofs.Ytdcmbcjkdhdohaa
open Go Go.RowKit
set_option linter.unusedSimpArgs false
set_option linter.unusedVariables false
attribute [local irreducible] wpList wpP Code.wp

theorem new_c (w : World) :
    Calls Try.prog 111 (([] : List Value).toArray) w (fun e w' => ∃ v, e = .returned v ∧ ∃ g, v = Ad (bs g) 0 ∧ St w [] [[(g, Rw 156 (dig (ab []) (List.replicate 64 0) ([] : List UInt8).length))]] w') := by
 refine calls_mk Try.func111 rfl 4 Try.ntmps111 rfl ?_
 have H0 : St w [] [] w := St.refl w
 refine c_seq ?_
 refine c_reg ?_
 refine sy (v := .pointer none) (y_assign (v := .pointer none) rfl) ?_
 refine c_nil ?_
 refine n_then ?_
 refine c_seq ?_
 refine c_reg ?_
 refine st (ow_call fn134 rfl (begins_c _) trivial) ?_
 rintro _ w1 ⟨rfl, hB2⟩
 have H3 : St w _ [] w1 := H0.call hB2
 refine sy (v := .agg (dig ivS (List.replicate 64 0) 0).toArray) (y_build (pv := [(0, .agg (iv.map U32).toArray)]) (us := dig (ivS) (List.replicate 64 0) (0)) ⟨⟨rfl, rfl⟩, trivial⟩ (by kernel_rfl)) ?_
 refine st (ow_box (l := dig (ivS) (List.replicate 64 0) (0)) H3 rfl rfl) ?_
 rintro _ w5 ⟨g4, rfl, H6⟩
 refine sy (v := Ad (bs g4) (0)) (y_assign rfl) ?_
 refine c_nil ?_
 refine n_then ?_
 refine wp_ret ?_
 refine e_r1 Try.results111 (rv_t rfl) ?_
 exact ⟨_, rfl, _, rfl, H6⟩

theorem write_c (g : Nat) (m r l : List UInt8) (bv : Value) (w : World) (hd : w.heap[g]? = some (Rw 156 (dig (ab m) r m.length))) (hD : Dg m r) (hR : Rd [g] w 1 bv l.length (l.map B8)) (hlen : m.length + l.length ≤ 4611686018427387904) :
    Calls Try.prog 112 (([Ad (bs g) (0), bv] : List Value).toArray) w (fun e w' => ∃ v, e = .returned v ∧ v = .tuple #[] ∧ ∃ r', Dg (m ++ l) r' ∧ St w [g] [[(g, Rw 156 (dig (ab (m ++ l)) r' (m ++ l).length))]] w') := by
 have hr64 := hD.1
 refine calls_mk Try.func112 rfl 69 Try.ntmps112 rfl ?_
 have H0 : St w [g] [[(g, Rw 156 (dig (ab m) (r) (m.length)))]] w := St.init hd
 refine c_seq ?_
 refine c_reg ?_
 refine sy (v := Ad (bs g) (0)) (y_move rfl) ?_
 refine sy (v := Ad (bs g) (0)) (y_nilCheck rfl) ?_
 refine sy (v := Ad (bs g) (0 + 72)) (y_fld Try.underlying156 rfl rfl sz3 (by decide) rfl) ?_
 refine sy (v := I ((m.length : Nat) : Int)) (y_load sc3 rfl (H0.cell 0 rfl (dig_num hD.1))) ?_
 refine sy (v := I ((m.length % 64 : Nat) : Int)) (n_rem (a := m.length) (b := 64) rfl rfl (by omega)) ?_
 refine sy (v := I ((m.length % 64 : Nat) : Int)) (y_assign rfl) ?_
 refine c_nil ?_
 refine n_then ?_
 refine c_seq ?_
 refine c_reg ?_
 refine sy (v := Ad (bs g) (0)) (y_move rfl) ?_
 refine sy (v := Ad (bs g) (0)) (y_nilCheck rfl) ?_
 refine sy (v := Ad (bs g) (0 + 72)) (y_fld Try.underlying156 rfl rfl sz3 (by decide) rfl) ?_
 refine sy (v := I ((m.length : Nat) : Int)) (y_load sc3 rfl (H0.cell 0 rfl (dig_num hD.1))) ?_
 refine sy (v := bv) (y_move rfl) ?_
 refine sy (v := I ((l.length : Nat) : Int)) (y_lenR Try.underlying23 (hR.st H0) rfl) ?_
 refine sy (v := I ((m.length + l.length : Nat) : Int)) (n_add (a := m.length) (b := l.length) rfl rfl (by omega)) ?_
 refine sy (v := Ad (bs g) (0)) (y_nilCheck rfl) ?_
 refine sy (v := Ad (bs g) (0 + 72)) (y_fld Try.underlying156 rfl rfl sz3 (by decide) rfl) ?_
 refine s0 (ow_store (j := 72) H0 sz3 rfl rfl rfl rfl (by rw [dig_length hD.1]; omega)) ?_
 rintro _ w1 H2'
 have H2 : St w _ [[(g, Rw 156 (dig (ab m) (r) (m.length + l.length)))]] w1 := H2'.eq1 (dig_set hD.1)
 refine c_nil ?_
 refine n_then ?_
 refine c_seq ?_
 refine c_seq ?_
 refine c_reg ?_
 refine sy (v := I ((m.length % 64 : Nat) : Int)) (y_move rfl) ?_
 refine sy (v := .bool (decide (0 < (m.length % 64)))) (n_gtr (a := m.length % 64) (b := 0) rfl rfl) ?_
 refine c_nil ?_
 refine n_then ?_
 refine c_cut (n := 69) (fun f3 w4 => ∃ (p : Nat), ∃ (vk : Value), ∃ (rk : List UInt8), f3 0 = Ad (bs g) (0) ∧ f3 1 = vk ∧ p ≤ l.length ∧ (m.length + p) % 64 = 0 ∧ rk.length = 64 ∧ Rd [g] w 1 vk (l.drop p).length ((l.drop p).map B8) ∧ St w [g] [[(g, Rw 156 (dig (ab (m ++ l.take p)) (rk) (m.length + l.length)))]] w4) ?_ ?_
 ·
  refine c_if rfl (fun hc5 => ?_) (fun hc5 => ?_)
  ·
   obtain ⟨k, hk, hk1, hk2, hk3⟩ : ∃ k, k = min l.length (64 - m.length % 64) ∧ k ≤ l.length ∧ k ≤ 64 - m.length % 64 ∧ (k = l.length ∨ k = 64 - m.length % 64) := ⟨_, rfl, Nat.min_le_left _ _, Nat.min_le_right _ _, (Nat.le_total l.length (64 - m.length % 64)).elim (fun h => .inl (Nat.min_eq_left h)) (fun h => .inr (Nat.min_eq_right h))⟩
   have hkl : (l.take k).length = k := by rw [List.length_take]; omega
   refine c_seq ?_
   refine c_reg ?_
   refine sy (v := Ad (bs g) (0)) (y_move rfl) ?_
   refine sy (v := Ad (bs g) (0)) (y_nilCheck rfl) ?_
   refine sy (v := Ad (bs g) (0 + 8)) (y_fld Try.underlying156 rfl rfl sz97 (by decide) rfl) ?_
   refine sy (v := I ((m.length % 64 : Nat) : Int)) (y_move rfl) ?_
   refine sy (v := slv 1 (m.length % 64) 64 (.slice (some ((bs g).add 8)) 64 64)) (y_slA (p := (bs g).add 8) (k1 := .i64) (k2 := .i64) (l := m.length % 64) (h := 64) Try.underlying97 sz5 rfl (.inr ⟨_, rfl, rfl⟩) (.inl ⟨rfl, rfl⟩) (by omega) (by omega)) ?_
   refine sy (v := bv) (y_move rfl) ?_
   refine st (ow_copy (k := k) (o := 8 + (m.length % 64)) (l := dig (ab m) (r) (m.length + l.length)) Try.underlying23 sz5 H2 (rfl.trans (slv_own (n := 64) (by omega))) rfl (hR.st H2) (map_one (F := B8) (fun _ => rfl) _) (by omega) (by rw [dig_length hD.1]; omega)) ?_
   rintro _ w6 ⟨rfl, H7'⟩
   have hr8 : (lay r (m.length % 64) ((l).take k)).length = 64 := by rw [lay_length (by omega)]; exact hD.1
   have H7 : St w _ [[(g, Rw 156 (dig (ab m) (lay r (m.length % 64) ((l).take k)) (m.length + l.length)))]] w6 := H7'.eq1 (by rw [← List.map_take]; exact dig_copy hD.1 (by omega) (by omega))
   refine sy (v := I ((k : Nat) : Int)) (y_assign rfl) ?_
   refine c_nil ?_
   refine n_then ?_
   refine c_seq ?_
   refine c_reg ?_
   refine sy (v := bv) (y_move rfl) ?_
   refine sy (v := I ((k : Nat) : Int)) (y_move rfl) ?_
   have hL9 : (l.drop k).length = l.length - k := by rw [List.length_drop]
   refine sy (v := slv 1 k l.length bv) (y_slR (k1 := .i64) (k2 := .i64) (l := k) (h := l.length) Try.underlying23 sz5 (hR.st H7) rfl (.inr ⟨_, rfl, rfl⟩) (.inl ⟨rfl, rfl⟩) (by omega) (by omega)) ?_
   refine sy (v := slv 1 k l.length bv) (y_assign rfl) ?_
   refine c_nil ?_
   refine n_then ?_
   refine c_seq ?_
   refine c_seq ?_
   refine c_reg ?_
   refine sy (v := I ((m.length % 64 : Nat) : Int)) (y_move rfl) ?_
   refine sy (v := I ((k : Nat) : Int)) (y_move rfl) ?_
   refine sy (v := I (((m.length % 64) + k : Nat) : Int)) (n_add (a := m.length % 64) (b := k) rfl rfl (by omega)) ?_
   refine sy (v := .bool (decide (((m.length % 64) + k) < 64))) (n_lss (a := (m.length % 64) + k) (b := 64) rfl rfl) ?_
   refine c_nil ?_
   refine n_then ?_
   refine c_if rfl (fun hc10 => ?_) (fun hc10 => ?_)
   ·
    refine wp_ret ?_
    refine r_then (qj_r (r_then ?_))
    refine e_ret0 Try.results112 ?_
    obtain rfl : k = l.length := by omega
    rw [List.take_length] at H7
    exact ⟨_, rfl, rfl, _, hD.short (by omega), by rw [ab_short m l (by omega), List.length_append]; exact H7⟩
   ·
    refine wp_skip ?_
    refine n_then ?_
    refine drawS (.step 0 0 (.step 0 1 (.step 0 2 (.step 0 3 (.step 0 4 (.step 0 5 (.step 0 6 (.step 0 7 (.step 0 8 (.step 1 9 (.step 2 10 (.step 2 11 (.step 2 12 .nil))))))))))))) mixed H7 (by kernel_rfl) (by kernel_rfl) (by kernel_rfl) ?_
    intro w11 H12
    refine pt (v := Ad (bs g) (0)) rfl (fun wS HS => y_move rfl) ?_
    refine pt (v := Ad (bs g) (0)) rfl (fun wS HS => y_move rfl) ?_
    refine pt (v := Ad (bs g) (0)) rfl (fun wS HS => y_nilCheck rfl) ?_
    refine pt (v := Ad (bs g) (0 + 0)) rfl (fun wS HS => y_fld Try.underlying156 rfl rfl sz136 (by decide) rfl) ?_
    refine pt (v := .agg (((ab m).list).map U32).toArray) rfl (fun wS HS => y_loadA (us := (ab m).list.map U32) ag136 sz136 rfl rfl (fun j u hu => (HS.cell 0 rfl (dig_words hu)))) ?_
    refine pt (v := Ad (bs g) (0)) rfl (fun wS HS => y_move rfl) ?_
    refine pt (v := Ad (bs g) (0)) rfl (fun wS HS => y_nilCheck rfl) ?_
    refine pt (v := Ad (bs g) (0 + 8)) rfl (fun wS HS => y_fld Try.underlying156 rfl rfl sz97 (by decide) rfl) ?_
    refine pt (v := .slice (some ((bs g).add 8)) 64 64) rfl (fun wS HS => y_slA (p := (bs g).add 8) (k1 := .i64) (k2 := .i64) (l := 0) (h := 64) Try.underlying97 sz5 rfl (.inl ⟨rfl, rfl⟩) (.inl ⟨rfl, rfl⟩) (by omega) (by omega)) ?_
    refine pl rfl (ow_call fn135 rfl (piece_c (ab m) (lay r (m.length % 64) (l.take k)) (.slice (some ((bs g).add 8)) 64 64) _ (by first | assumption | omega) ((rd_dig H12 0 rfl hr8)).nil) ⟨rfl, rfl, trivial⟩) ?_
    rintro _ w13 ⟨rfl, hB14⟩
    have H15 : St w _ [_] w13 := H12.call hB14
    refine ⟨H15, ?_⟩
    refine tly (v := Ad (bs g) (0)) rfl (y_nilCheck rfl) ?_
    refine tly (v := Ad (bs g) (0 + 0)) rfl (y_fld Try.underlying156 rfl rfl sz136 (by decide) rfl) ?_
    refine t0 rfl (ow_storeA (us := ((comp (ab m) (lay r (m.length % 64) (l.take k))).list).map U32) H15 sz136 rfl rfl rfl (map_one (F := U32) (fun _ => rfl) _) (by rw [dig_length hr8]; omega)) ?_
    rintro _ w16 H17'
    have H17 : St w _ [[(g, Rw 156 (dig (comp (ab m) (lay r (m.length % 64) (l.take k))) (lay r (m.length % 64) ((l).take k)) (m.length + l.length)))]] w16 := H17'.eq1 dig_setw
    refine p_nil ?_
    exact qj_n ⟨k, _, _, rfl, rfl, hk1, (by omega), hr8, (rdb_suf hR hk1), (by rw [← hD.full (by omega)]; exact H17)⟩
  ·
   refine wp_skip ?_
   exact qj_n ⟨0, bv, r, rfl, rfl, (Nat.zero_le _), (by omega), hD.1, hR, (by rw [List.take_zero, List.append_nil]; exact H2)⟩
 ·
  rintro f3 w4 ⟨p, vk, rk, s0_18, s1_18, hp1, hp2, hrk, hRk, H18⟩
  refine n_then ?_
  refine c_seq ?_
  refine wp_block ?_
  refine c_loop (fun (p : Nat) f19 w20 => ∃ (vk : Value), ∃ (rk : List UInt8), f19 0 = Ad (bs g) (0) ∧ f19 1 = vk ∧ p ≤ l.length ∧ (m.length + p) % 64 = 0 ∧ rk.length = 64 ∧ Rd [g] w 1 vk (l.drop p).length ((l.drop p).map B8) ∧ St w [g] [[(g, Rw 156 (dig (ab (m ++ l.take p)) (rk) (m.length + l.length)))]] w20) (fun p => l.length - p) p ⟨_, _, s0_18, s1_18, hp1, hp2, hrk, hRk, H18⟩ ?_
  rintro p f19 w20 ⟨vk, rk, s0_21, s1_21, hp1, hp2, hrk, hRk, H21⟩
  have hLp : (l.drop p).length = l.length - p := List.length_drop
  refine c_seq ?_
  refine c_seq ?_
  refine c_reg ?_
  refine sy (v := vk) (y_move s1_21) ?_
  refine sy (v := I (((l.drop p).length : Nat) : Int)) (y_lenR Try.underlying23 (hRk.st H21) rfl) ?_
  refine sy (v := .bool (decide (64 ≤ ((l.drop p).length)))) (n_geq (a := (l.drop p).length) (b := 64) rfl rfl) ?_
  refine c_nil ?_
  refine n_then ?_
  refine c_if rfl (fun hc22 => ?_) (fun hc22 => ?_)
  ·
   refine wp_skip ?_
   refine n_then ?_
   refine wp_block ?_
   refine c_seq ?_
   refine drawS (.step 0 0 (.step 0 1 (.step 0 2 (.step 0 3 (.step 0 4 (.step 0 5 (.step 0 6 (.step 1 7 (.step 2 8 (.step 2 9 (.step 2 10 .nil))))))))))) mixed H21 (by kernel_rfl) (by kernel_rfl) (by kernel_rfl) ?_
   intro w23 H24
   refine pt (v := Ad (bs g) (0)) rfl (fun wS HS => y_move s0_21) ?_
   refine pt (v := Ad (bs g) (0)) rfl (fun wS HS => y_move s0_21) ?_
   refine pt (v := Ad (bs g) (0)) rfl (fun wS HS => y_nilCheck rfl) ?_
   refine pt (v := Ad (bs g) (0 + 0)) rfl (fun wS HS => y_fld Try.underlying156 rfl rfl sz136 (by decide) rfl) ?_
   refine pt (v := .agg (((ab (m ++ l.take p)).list).map U32).toArray) rfl (fun wS HS => y_loadA (us := (ab (m ++ l.take p)).list.map U32) ag136 sz136 rfl rfl (fun j u hu => (HS.cell 0 rfl (dig_words hu)))) ?_
   refine pt (v := vk) rfl (fun wS HS => y_move s1_21) ?_
   have hL25 : ((l.drop p).take 64).length = 64 := by rw [List.length_take]; omega
   refine pt (v := slv 1 0 64 vk) rfl (fun wS HS => y_slR (k1 := .i64) (k2 := .i64) (l := 0) (h := 64) Try.underlying23 sz5 (hRk.st HS) rfl (.inl ⟨rfl, rfl⟩) (.inr ⟨_, rfl, rfl⟩) (by omega) (by omega)) ?_
   refine pl rfl (ow_call fn135 rfl (piece_c (ab (m ++ l.take p)) ((l.drop p).take 64) (slv 1 0 64 vk) _ (by first | assumption | omega) ((rdb_pre (hRk.st H24) (by omega))).nil) ⟨rfl, rfl, trivial⟩) ?_
   rintro _ w26 ⟨rfl, hB27⟩
   have H28 : St w _ [_] w26 := H24.call hB27
   refine ⟨H28, ?_⟩
   refine tly (v := Ad (bs g) (0)) rfl (y_nilCheck rfl) ?_
   refine tly (v := Ad (bs g) (0 + 0)) rfl (y_fld Try.underlying156 rfl rfl sz136 (by decide) rfl) ?_
   refine t0 rfl (ow_storeA (us := ((comp (ab (m ++ l.take p)) ((l.drop p).take 64)).list).map U32) H28 sz136 rfl rfl rfl (map_one (F := U32) (fun _ => rfl) _) (by rw [dig_length hrk]; omega)) ?_
   rintro _ w29 H30'
   have H30 : St w _ [[(g, Rw 156 (dig (comp (ab (m ++ l.take p)) ((l.drop p).take 64)) (rk) (m.length + l.length)))]] w29 := H30'.eq1 dig_setw
   refine p_nil ?_
   refine n_then ?_
   refine c_reg ?_
   refine sy (v := vk) (y_move s1_21) ?_
   have hL31 : ((l.drop p).drop 64).length = (l.drop p).length - 64 := by rw [List.length_drop]
   refine sy (v := slv 1 64 ((l.drop p).length) vk) (y_slR (k1 := .i64) (k2 := .i64) (l := 64) (h := (l.drop p).length) Try.underlying23 sz5 (hRk.st H30) rfl (.inr ⟨_, rfl, rfl⟩) (.inl ⟨rfl, rfl⟩) (by omega) (by omega)) ?_
   refine sy (v := slv 1 64 ((l.drop p).length) vk) (y_assign rfl) ?_
   refine c_nil ?_
   refine n_block ?_
   exact lp_next (p + 64) ⟨_, _, s0_21, rfl, (by omega), (by omega), hrk, (by have := rdb_suf (a := 64) hRk (by omega); rw [List.drop_drop] at this; exact this), (by rw [List.take_add, ← List.append_assoc, ← ab_next _ (by rw [List.length_append, List.length_take]; omega) (by omega)]; exact H30)⟩ (by show _ < _; omega)
  ·
   refine wp_exit ?_
   refine x_then (x_then (x_hit (n_then ?_)))
   refine c_reg ?_
   refine sy (v := Ad (bs g) (0)) (y_move s0_21) ?_
   refine sy (v := Ad (bs g) (0)) (y_nilCheck rfl) ?_
   refine sy (v := Ad (bs g) (0 + 8)) (y_fld Try.underlying156 rfl rfl sz97 (by decide) rfl) ?_
   refine sy (v := .slice (some ((bs g).add 8)) 64 64) (y_slA (p := (bs g).add 8) (k1 := .i64) (k2 := .i64) (l := 0) (h := 64) Try.underlying97 sz5 rfl (.inl ⟨rfl, rfl⟩) (.inl ⟨rfl, rfl⟩) (by omega) (by omega)) ?_
   refine sy (v := vk) (y_move s1_21) ?_
   refine st (ow_copy (k := (l.drop p).length) (o := 8 + 0) (l := dig (ab (m ++ l.take p)) (rk) (m.length + l.length)) Try.underlying23 sz5 H21 rfl rfl (hRk.st H21) (map_one (F := B8) (fun _ => rfl) _) (by omega) (by rw [dig_length hrk]; omega)) ?_
   rintro _ w32 ⟨rfl, H33'⟩
   have hr34 : (lay rk 0 (l.drop p)).length = 64 := by rw [lay_length (by omega)]; exact hrk
   have H33 : St w _ [[(g, Rw 156 (dig (ab (m ++ l.take p)) (lay rk 0 (l.drop p)) (m.length + l.length)))]] w32 := H33'.eq1 (by rw [← List.map_take, List.take_length]; exact dig_copy hrk (by omega) (by omega))
   refine c_nil ?_
   refine e_end0 Try.results112 ?_
   have hml : (m ++ l.take p).length = m.length + p := by rw [List.length_append, List.length_take]; omega
   have he : m ++ l = (m ++ l.take p) ++ l.drop p := by rw [List.append_assoc, List.take_append_drop]
   refine ⟨_, rfl, rfl, lay rk 0 (l.drop p), ?_, ?_⟩
   · rw [he]; exact Dg.end_ (by omega) hrk (by omega)
   · rw [List.length_append, he, ab_short _ _ (by omega)]; exact H33

end Go.Proofs.Ytdcmbcjkdhdohaa
