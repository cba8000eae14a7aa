/- SealOnce returns true for every key and bytes: no condition but the form's own reach. -/
import Derived.Test.YtdcmbcjkdhdohaaOpen1
import Derived.Test.YtdcmbcjkdhdohaaArg
namespace Go.Proofs.Ytdcmbcjkdhdohaa
open Go Go.RowKit
set_option linter.unusedSimpArgs false
set_option linter.unusedVariables false
attribute [local irreducible] wpList wpP Code.wp

theorem once_eqF {lk b : List UInt8} (h : opE lk b = none) : sealL lk ((opF lk b : Nat) : Int) ((opT lk b : Nat) : Int) (opB lk b) = b := by
  unfold opF opT opB; rw [if_pos h, if_pos h, if_pos h]; exact once_eq h
theorem once_erF {lk b : List UInt8} (h : opE lk b = none) : sealEr lk ((opF lk b : Nat) : Int) ((opT lk b : Nat) : Int) (opB lk b) = 0 := by
  unfold opF opT opB; rw [if_pos h, if_pos h, if_pos h]; exact once_er h
theorem opB_le (lk b : List UInt8) : (opB lk b).length ≤ b.length := by
  unfold opB; split
  · rw [List.length_take, List.length_drop]; omega
  · exact Nat.zero_le _

set_option maxHeartbeats 1000000 in
theorem sealOnce_c (v0 v1 : Value) (lk b : List UInt8) (w : World) (hK : Rd [] w 1 v0 lk.length (lk.map B8)) (hR : Rd [] w 1 v1 b.length (b.map B8)) (hlk : lk.length ≤ 140737488351232) (hb : b.length ≤ 140737488351232) :
    Calls Try.prog 15 (([v0, v1] : List Value).toArray) w (fun e w' => ∃ v, e = .returned v ∧ v = .bool true ∧ Below w.heap.size w w') := by
  have hBl := opB_le lk b
  refine calls_mk Try.func15 rfl 55 Try.ntmps15 rfl ?_
  have H0 : St w [] [] w := St.refl w
  refine c_seq ?_
  refine c_reg ?_
  refine sy (v := .bool (false)) (y_assign (v := .bool (false)) rfl) ?_
  refine c_nil ?_
  refine n_then ?_
  refine c_seq ?_
  refine c_reg ?_
  refine st (ow_call fn21 rfl (fixed_c _) trivial) ?_
  rintro _ w1 ⟨rfl, hB2⟩
  have H3 : St w [] [] w1 := H0.call hB2
  refine sy (v := .bool (true)) (y_assign rfl) ?_
  refine c_nil ?_
  refine n_then ?_
  refine c_seq ?_
  refine c_reg ?_
  refine sy (v := v0) (y_move rfl) ?_
  refine sy (v := v1) (y_move rfl) ?_
  by_cases hp4 : opE lk b = none
  · skip
    refine st (ow_call fn69 rfl (open_ok (v0) (v1) (lk) (b) _ ((hK.st H3)).nil ((hR.st H3)).nil (by first | omega | (simp only [List.length_append, List.length_cons, List.length_nil, List.length_take, List.length_drop, hmac_length, sha_length, List.length_replicate]; omega)) (by first | omega | (simp only [List.length_append, List.length_cons, List.length_nil, List.length_take, List.length_drop, hmac_length, sha_length, List.length_replicate]; omega)) hp4) ⟨rfl, rfl, trivial⟩) ?_
    rintro _ w5 ⟨v6, E7, rfl, ho8, H9⟩
    have H10 : St w [] [E7] w5 := H3.app H9
    refine sy (v := .tuple #[.agg ([I ((opF lk b : Nat) : Int), I ((opT lk b : Nat) : Int), v6]).toArray, .nilIface]) (y_move rfl) ?_
    refine sy (v := .agg ([I ((opF lk b : Nat) : Int), I ((opT lk b : Nat) : Int), v6]).toArray) (y_extract (i := 0) rfl rfl) ?_
    refine sy (v := .nilIface) (y_extract (i := 1) rfl rfl) ?_
    refine st (ow_alloc (l := [I ((0 : Nat) : Int), I ((0 : Nat) : Int), .slice none 0 0]) H10 zr31 rfl) ?_
    rintro _ w12 ⟨g11, rfl, H13⟩
    refine s0 (ow_storeW (us := [I ((opF lk b : Nat) : Int), I ((opT lk b : Nat) : Int), v6]) H13 sz31 rfl rfl rfl (by intro u hu; simp only [List.mem_cons, List.not_mem_nil, or_false] at hu; rcases hu with rfl | rfl | rfl <;> first | rfl | exact Rd.one (ho8.rd H13 1 rfl)) (by simp [*])) ?_
    rintro _ w14 H15'
    have H15 : St w [] [[(g11, Rw 31 ([I ((opF lk b : Nat) : Int), I ((opT lk b : Nat) : Int), v6]))], E7] w14 := H15'
    refine sy (v := .nilIface) (y_assign rfl) ?_
    refine c_nil ?_
    refine n_then ?_
    refine c_seq ?_
    refine c_seq ?_
    refine c_reg ?_
    refine sy (v := .bool (true)) (y_move rfl) ?_
    refine sy (v := .bool (false)) (y_not (p := true) rfl) ?_
    refine sy (v := .bool (false)) (y_move rfl) ?_
    refine gsy (v := .nilIface) (gv_of (t := 20) rfl rfl rfl) (rfl) (y_move rfl) ?_
    refine gsy (v := .bool (false)) (gv_of (t := 20) rfl rfl rfl) (rfl) (y_neqNil0 Try.underlying88 rfl) ?_
    refine sy (v := .bool (false)) (y_pickF rfl (rfl) rfl) ?_
    refine c_nil ?_
    refine n_then ?_
    refine c_f rfl rfl ?_
    refine wp_skip ?_
    refine n_then ?_
    refine c_seq ?_
    refine c_reg ?_
    refine sy (v := v0) (y_move rfl) ?_
    refine sy (v := .agg ([I ((opF lk b : Nat) : Int), I ((opT lk b : Nat) : Int), v6]).toArray) (y_loadA (us := [I ((opF lk b : Nat) : Int), I ((opT lk b : Nat) : Int), v6]) ag31 sz31 rfl rfl (fun j u hu => (H15.cell 0 rfl (by rw [Nat.zero_add]; exact hu)))) ?_
    refine st (ow_call fn28 rfl (seal_c (v0) (v6) (lk) (((opF lk b : Nat) : Int)) (((opT lk b : Nat) : Int)) (opB lk b) _ ((hK.st H15)).nil ((ho8.rd H15 1 rfl)).nil (by first | omega | (simp only [List.length_take]; omega))) ⟨rfl, rfl, trivial⟩) ?_
    rintro _ w17 ⟨v16, E18, rfl, ho19, H20⟩
    have H21 : St w [] [E18, [(g11, Rw 31 ([I ((opF lk b : Nat) : Int), I ((opT lk b : Nat) : Int), v6]))], E7] w17 := H15.app H20
    refine sy (v := .tuple #[v16, I ((sealEr (lk) (((opF lk b : Nat) : Int)) (((opT lk b : Nat) : Int)) (opB lk b) : Nat) : Int)]) (y_move rfl) ?_
    refine sy (v := v16) (y_extract (i := 0) rfl rfl) ?_
    refine sy (v := I ((sealEr (lk) (((opF lk b : Nat) : Int)) (((opT lk b : Nat) : Int)) (opB lk b) : Nat) : Int)) (y_extract (i := 1) rfl rfl) ?_
    refine sy (v := v16) (y_assign rfl) ?_
    refine sy (v := I ((sealEr (lk) (((opF lk b : Nat) : Int)) (((opT lk b : Nat) : Int)) (opB lk b) : Nat) : Int)) (y_assign rfl) ?_
    refine c_nil ?_
    refine n_then ?_
    refine c_seq ?_
    refine c_reg ?_
    refine sy (v := v16) (y_move rfl) ?_
    refine sy (v := v1) (y_move rfl) ?_
    refine st (ow_call fn29 rfl (same_c (v16) (v1) (sealL (lk) (((opF lk b : Nat) : Int)) (((opT lk b : Nat) : Int)) (opB lk b)) (b) _ ((ho19.rd H21 0 rfl)).nil ((hR.st H21)).nil) ⟨rfl, rfl, trivial⟩) ?_
    rintro _ w22 ⟨rfl, hB23⟩
    have H24 : St w [] [E18, [(g11, Rw 31 ([I ((opF lk b : Nat) : Int), I ((opT lk b : Nat) : Int), v6]))], E7] w22 := H21.call hB23
    refine sy (v := .bool (decide ((sealL (lk) (((opF lk b : Nat) : Int)) (((opT lk b : Nat) : Int)) (opB lk b)) = b))) (y_assign rfl) ?_
    refine c_nil ?_
    refine n_then ?_
    refine c_seq ?_
    refine c_reg ?_
    refine sy (v := .bool (decide ((sealL (lk) (((opF lk b : Nat) : Int)) (((opT lk b : Nat) : Int)) (opB lk b)) = b))) (y_move rfl) ?_
    refine sy (v := .bool (decide ((sealL (lk) (((opF lk b : Nat) : Int)) (((opT lk b : Nat) : Int)) (opB lk b)) = b))) (y_move rfl) ?_
    have hq25 : (sealL (lk) (((opF lk b : Nat) : Int)) (((opT lk b : Nat) : Int)) (opB lk b)) = b := (once_eqF hp4)
    refine gsy (v := I ((sealEr (lk) (((opF lk b : Nat) : Int)) (((opT lk b : Nat) : Int)) (opB lk b) : Nat) : Int)) (gv_of (t := 51) rfl rfl rfl) (decide_eq_true hq25) (y_move rfl) ?_
    refine gsy (v := .bool (decide ((sealEr (lk) (((opF lk b : Nat) : Int)) (((opT lk b : Nat) : Int)) (opB lk b)) = 0))) (gv_of (t := 51) rfl rfl rfl) (decide_eq_true hq25) (n_eql (a := sealEr (lk) (((opF lk b : Nat) : Int)) (((opT lk b : Nat) : Int)) (opB lk b)) (b := 0) rfl rfl) ?_
    refine sy (v := .bool (decide ((sealEr (lk) (((opF lk b : Nat) : Int)) (((opT lk b : Nat) : Int)) (opB lk b)) = 0))) (y_pickT rfl (decide_eq_true hq25) rfl) ?_
    refine sy (v := .bool (decide ((sealEr (lk) (((opF lk b : Nat) : Int)) (((opT lk b : Nat) : Int)) (opB lk b)) = 0))) (y_assign rfl) ?_
    refine c_nil ?_
    refine n_then ?_
    refine wp_ret ?_
    refine e_r1 Try.results15 (rv_t rfl) ?_
    have hq26 : (sealEr (lk) (((opF lk b : Nat) : Int)) (((opT lk b : Nat) : Int)) (opB lk b)) = 0 := (once_erF hp4)
    have hz : (.bool (decide ((sealEr (lk) (((opF lk b : Nat) : Int)) (((opT lk b : Nat) : Int)) (opB lk b)) = 0)) : Value) = .bool true := congrArg Value.bool (decide_eq_true hq26)
    exact ⟨_, rfl, hz, H24.below⟩
  · skip
    refine st (ow_call fn69 rfl (open_err (v0) (v1) (lk) (b) _ ((hK.st H3)).nil ((hR.st H3)).nil (by first | omega | (simp only [List.length_append, List.length_cons, List.length_nil, List.length_take, List.length_drop, hmac_length, sha_length, List.length_replicate]; omega)) (by first | omega | (simp only [List.length_append, List.length_cons, List.length_nil, List.length_take, List.length_drop, hmac_length, sha_length, List.length_replicate]; omega)) hp4) ⟨rfl, rfl, trivial⟩) ?_
    rintro _ w27 ⟨u28, x29, rfl, hB30⟩
    have H31 : St w [] [] w27 := H3.call hB30
    refine sy (v := .tuple #[.agg ([I ((0 : Nat) : Int), I ((0 : Nat) : Int), .slice none 0 0]).toArray, .iface u28 x29]) (y_move rfl) ?_
    refine sy (v := .agg ([I ((0 : Nat) : Int), I ((0 : Nat) : Int), .slice none 0 0]).toArray) (y_extract (i := 0) rfl rfl) ?_
    refine sy (v := .iface u28 x29) (y_extract (i := 1) rfl rfl) ?_
    refine st (ow_alloc (l := [I ((0 : Nat) : Int), I ((0 : Nat) : Int), .slice none 0 0]) H31 zr31 rfl) ?_
    rintro _ w33 ⟨g32, rfl, H34⟩
    refine s0 (ow_storeW (us := [I ((0 : Nat) : Int), I ((0 : Nat) : Int), .slice none 0 0]) H34 sz31 rfl rfl rfl (by simp [Value.oneCell']) (by simp [*])) ?_
    rintro _ w35 H36'
    have H36 : St w [] [[(g32, Rw 31 ([I ((0 : Nat) : Int), I ((0 : Nat) : Int), .slice none 0 0]))]] w35 := H36'
    refine sy (v := .iface u28 x29) (y_assign rfl) ?_
    refine c_nil ?_
    refine n_then ?_
    refine c_seq ?_
    refine c_seq ?_
    refine c_reg ?_
    refine sy (v := .bool (true)) (y_move rfl) ?_
    refine sy (v := .bool (false)) (y_not (p := true) rfl) ?_
    refine sy (v := .bool (false)) (y_move rfl) ?_
    refine gsy (v := .iface u28 x29) (gv_of (t := 20) rfl rfl rfl) (rfl) (y_move rfl) ?_
    refine gsy (v := .bool (true)) (gv_of (t := 20) rfl rfl rfl) (rfl) (y_neqNil Try.underlying88 rfl) ?_
    refine sy (v := .bool (true)) (y_pickF rfl (rfl) rfl) ?_
    refine c_nil ?_
    refine n_then ?_
    refine c_t rfl rfl ?_
    refine c_seq ?_
    refine c_reg ?_
    refine sy (v := .bool (true)) (y_move rfl) ?_
    refine sy (v := .bool (true)) (y_move rfl) ?_
    refine gsy (v := Ad (bs g32) (0 + 2)) (gv_of (t := 25) rfl rfl rfl) (rfl) (y_fld Try.underlying31 rfl rfl sz23 (by decide) rfl) ?_
    refine gsy (v := .slice none 0 0) (gv_of (t := 25) rfl rfl rfl) (rfl) (y_load sc23 rfl (H36.cell 0 rfl rfl)) ?_
    refine gsy (v := I ((0 : Nat) : Int)) (gv_of (t := 25) rfl rfl rfl) (rfl) (y_len Try.underlying23 rfl) ?_
    refine gsy (v := .bool (decide (0 = 0))) (gv_of (t := 25) rfl rfl rfl) (rfl) (n_eql (a := 0) (b := 0) rfl rfl) ?_
    refine sy (v := .bool (decide (0 = 0))) (y_pickT rfl (rfl) rfl) ?_
    refine sy (v := .bool (decide (0 = 0))) (y_move rfl) ?_
    have hq37 : 0 = 0 := rfl
    refine gsy (v := Ad (bs g32) (0 + 0)) (gv_of (t := 31) rfl rfl rfl) (decide_eq_true hq37) (y_fld Try.underlying31 rfl rfl sz3 (by decide) rfl) ?_
    refine gsy (v := I ((0 : Nat) : Int)) (gv_of (t := 31) rfl rfl rfl) (decide_eq_true hq37) (y_load sc3 rfl (H36.cell 0 rfl rfl)) ?_
    refine gsy (v := .bool (decide (0 = 0))) (gv_of (t := 31) rfl rfl rfl) (decide_eq_true hq37) (n_eql (a := 0) (b := 0) rfl rfl) ?_
    refine sy (v := .bool (decide (0 = 0))) (y_pickT rfl (decide_eq_true hq37) rfl) ?_
    refine sy (v := .bool (decide (0 = 0))) (y_move rfl) ?_
    refine gsy (v := Ad (bs g32) (0 + 1)) (gv_of (t := 36) rfl rfl rfl) (decide_eq_true hq37) (y_fld Try.underlying31 rfl rfl sz3 (by decide) rfl) ?_
    refine gsy (v := I ((0 : Nat) : Int)) (gv_of (t := 36) rfl rfl rfl) (decide_eq_true hq37) (y_load sc3 rfl (H36.cell 0 rfl rfl)) ?_
    refine gsy (v := .bool (decide (0 = 0))) (gv_of (t := 36) rfl rfl rfl) (decide_eq_true hq37) (n_eql (a := 0) (b := 0) rfl rfl) ?_
    refine sy (v := .bool (decide (0 = 0))) (y_pickT rfl (decide_eq_true hq37) rfl) ?_
    refine sy (v := .bool (decide (0 = 0))) (y_assign rfl) ?_
    refine c_nil ?_
    refine n_then ?_
    refine wp_ret ?_
    refine r_then ?_
    refine e_r1 Try.results15 (rv_t rfl) ?_
    have hz : (.bool (decide (0 = 0)) : Value) = .bool true := congrArg Value.bool (decide_eq_true hq37)
    exact ⟨_, rfl, hz, H36.below⟩


namespace SealOnceDone
open Go.ChangeShapes Go.WideShapes Go.ChangeAt
set_option linter.unusedVariables false
set_option maxRecDepth 100000 in
theorem lifted (os : Os) (started : os.Started) (H : Type) (enc : TypeId × Value → H) :
    ReturnsInHanded {} Try.checked os 15 .any (Rows.sealOnceSpec.pre6 enc Try.prog Try.f15 Rows.sealOnceRow.domain false) (Rows.sealOnceSpec.post enc Try.prog Try.f15 false true false false) := by
  refine returnsInHanded_of_change_sized (C := Try.checked) own started (by kernel_rfl) Try.func15
    (ChangeSpec.witness6 (enc := enc) (C := Try.checked) false ⟨#[], #[.slice none 0 0, .slice none 0 0], []⟩ 8 (by kernel_rfl) (by kernel_rfl) (by kernel_rfl) (by kernel_rfl)) ?_
  intro W base args ds gs before hval0 hW hcnd hsz0 _
  have hval : ∀ (j : Nat) t v, Try.f15.params[j]? = some t → args[j]? = some v → Value.okWide Try.prog W .any base t v := hval0
  have hW' := hW
  obtain ⟨p, q, hA0, hV, rfl, hfz, hnd⟩ := hW
  have hA : DataW.TrodAll enc Try.prog W 0 (fun _ => true) true Try.f15.params.toList args.toList ds p := hA0
  have hsz : (DataW.weightsEach Try.prog (Try.f15.params.toList ++ Rows.sealOnceSpec.plain.varTypes Try.prog) (ds ++ gs)).all (· ≤ reachBytes) = true := hsz0
  rw [Try.params15] at hA hval hsz
  obtain ⟨v0, vs0, d0, ds0, p0, q0, hargs, rfl, rfl, h0, r0⟩ := trodAll_cons hA
  obtain ⟨v1, vs1, d1, ds1, p1, q1, rfl, rfl, rfl, h1, r1⟩ := trodAll_cons r0
  obtain ⟨rfl, rfl, rfl⟩ := trodAll_nil r1
  obtain rfl : args = #[v0, v1] := by cases args; simp_all
  obtain ⟨rfl, rfl⟩ := trodVars_none hV
  have lt0 : ∀ x ∈ p0, x.block < W.heap.size := by obtain ⟨m, hm⟩ := h0; exact DataW.trod_lt m _ _ _ hm
  obtain ⟨l0, hR0, hl0⟩ := bytes_arg Try.underlying23 Try.underlying5 (by kernel_rfl) (by kernel_rfl) h0 (okWide_slice Try.underlying23 (hval 0 23 v0 rfl rfl)) hsz (j := 0) rfl rfl
  have lt1 : ∀ x ∈ p1, x.block < W.heap.size := by obtain ⟨m, hm⟩ := h1; exact DataW.trod_lt m _ _ _ hm
  obtain ⟨l1, hR1, hl1⟩ := bytes_arg Try.underlying23 Try.underlying5 (by kernel_rfl) (by kernel_rfl) h1 (okWide_slice Try.underlying23 (hval 1 23 v1 rfl rfl)) hsz (j := 1) rfl rfl
  refine (sealOnce_c v0 v1 l0 l1 W hR0 hR1 hl0 hl1).mono fun e W' ⟨v, he, hv, bel⟩ => ?_
  subst he hv
  exact ⟨_, rfl, _, _, _, [], _, [], hW', trodAll_mk1 (shut_bool Try.underlying4 _), (trodAll_cons_mk (Below.trod laidOut (by kernel_rfl) (of_decide_eq_true (by kernel_rfl)) h0 bel lt0) (trodAll_cons_mk (Below.trod laidOut (by kernel_rfl) (of_decide_eq_true (by kernel_rfl)) h1 bel lt1) trodAll_mk0)), rfl, bel.frame _, fun h => by cases h⟩
theorem over : Rows.sealOnceRow.holds Try.pinned (OpenSpec.ofChange Rows.sealOnceSpec) :=
  OpenClaim.holds_of_wide 15 Try.f15 rfl rfl rfl rfl rfl rfl rfl ⟨rfl, rfl, rfl, rfl, rfl⟩ rfl rfl rfl rfl rfl (by kernel_rfl) Try.func15 (by kernel_rfl)
    (of_decide_eq_true (by kernel_rfl)) (by unfold Func.isWrapper; first | (rw [if_pos (by decide +kernel)]; kernel_rfl) | (rw [if_neg (by decide +kernel)]; exact ⟨rfl, rfl⟩))
    (fun os started H enc _ => lifted os started H enc)
/-- THE STATEMENT -/
theorem proved : Rows.SealOnceSaid := over
end SealOnceDone

end Go.Proofs.Ytdcmbcjkdhdohaa
