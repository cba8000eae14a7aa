/- A function's end, whatever its results are; typed forms of loads and stores; small rules on what a call holds. -/
import Derived.Test.YtdcmbcjkdhdohaaNat
namespace Go.Proofs.Ytdcmbcjkdhdohaa
open Go Go.RowKit

section
variable {P : Program} {n : Nat} {f : Nat → Value} {ty t : TypeId} {w w0 : World} {x y ix : Operand} {v v1 v2 v3 v4 : Value} {X : List Nat} {L L' : List Part}

/-- What a result's place gives. -/
def RV (P : Program) (n : Nat) (f : Nat → Value) (w : World) (r : ResultVar) (v : Value) : Prop :=
  (match r with
    | .tmp t => pure ((mkA n f).tmps.getD t undef)
    | .cell a t => do loadVar t (← asAddr ((mkA n f).tmps.getD a undef)) : Sem Value).run P w = .ok v w
theorem rv_t {t : Nat} (h : ev n f (.tmp t) = v) : RV P n f w (.tmp t) v := by
  unfold RV
  simp only [Sem.run_pure, getD_mkA]
  exact congrArg (Result.ok · w) h
theorem rv_c {a s : Nat} {p : Addr} {us : List Value} (ht : aggr P t) (hs : Sz P t s) (hl : us.length = s) (h : ev n f (.tmp a) = Ad p 0) (hc : ∀ j u, us[j]? = some u → w.cell? (p.add j) = some u) :
    RV P n f w (.cell a t) (.agg us.toArray) := by
  unfold RV
  have hp : (mkA n f).tmps.getD a undef = .pointer (some p) := (getD_mkA n f a).trans h
  have hl2 := run_loadCells_list (P := P) w p us hc
  rw [hl] at hl2
  simp only [hp, asAddr, loadVar]
  simp [run_isAgg_true ht, run_sizeOf hs, hl2]
/-- A result in a block of ours. -/
theorem rv_b {a s g i : Nat} {tt : TypeId} {us : List Value} (H : St w0 X L w) (hi : L[i]? = some [(g, Rw tt us)]) (ht : aggr P t) (hs : Sz P t s) (hl : us.length = s) (h : ev n f (.tmp a) = Ad (bs g) 0) :
    RV P n f w (.cell a t) (.agg us.toArray) := rv_c ht hs hl h fun _ _ hu => H.cell i hi hu

variable {fn : Func} {R : Ending → World → Prop} {r1 r2 r3 r4 : ResultVar}
theorem e_r1 (hr : fn.results = #[r1]) (h1 : RV P n f w r1 v1) (hR : R (.returned v1) w) : bodyPost P fn R .ret (mkA n f) w := by
  refine ⟨rfl, v1, ?_, hR⟩
  unfold RV at h1
  unfold results
  rw [hr]
  cases r1 <;> (simp only [] at h1; simp [Array.mapM_eq_mapM_toList, List.mapM_cons] at h1 ⊢; simp [h1])
theorem run_mapM2 {F : ResultVar → Sem Value} {l : List ResultVar} {vs : List Value} (h : ∀ (j : Nat) r v, l[j]? = some r → vs[j]? = some v → (F r).run P w = .ok v w) (hl : l.length = vs.length) :
    (l.mapM F).run P w = .ok vs w := by
  induction l generalizing vs with
  | nil => cases vs with
    | nil => simp
    | cons => simp at hl
  | cons r l ih => cases vs with
    | nil => simp at hl
    | cons v vs =>
      have h0 := h 0 r v rfl rfl
      have := ih (vs := vs) (fun j r v h1 h2 => h (j + 1) r v (by simpa using h1) (by simpa using h2)) (by simpa using hl)
      simp [List.mapM_cons, h0, this]
theorem results_list {l : List ResultVar} {vs : List Value} (hr : fn.results = l.toArray) (h : ∀ (j : Nat) r v, l[j]? = some r → vs[j]? = some v → RV P n f w r v) (hl : l.length = vs.length) (h1 : l.length ≠ 1) :
    (results fn (mkA n f).tmps).run P w = .ok (.tuple vs.toArray) w := by
  unfold results
  rw [hr, Array.mapM_eq_mapM_toList]
  simp only [Sem.run_bind, Sem.run_map]
  rw [run_mapM2 (vs := vs) (fun j r v h1 h2 => ?_) hl]
  · have : vs.length ≠ 1 := by omega
    simp [this]
  · have := h j r v h1 h2
    unfold RV at this
    cases r <;> exact this
theorem e_r2 (hr : fn.results = #[r1, r2]) (h1 : RV P n f w r1 v1) (h2 : RV P n f w r2 v2) (hR : R (.returned (.tuple #[v1, v2])) w) : bodyPost P fn R .ret (mkA n f) w :=
  ⟨rfl, _, results_list (l := [r1, r2]) (vs := [v1, v2]) hr (fun j r v a b => by
    match j with
    | 0 => simp at a b; subst a b; exact h1
    | 1 => simp at a b; subst a b; exact h2
    | j + 2 => simp at a) rfl (by simp), hR⟩
theorem e_r3 (hr : fn.results = #[r1, r2, r3]) (h1 : RV P n f w r1 v1) (h2 : RV P n f w r2 v2) (h3 : RV P n f w r3 v3) (hR : R (.returned (.tuple #[v1, v2, v3])) w) : bodyPost P fn R .ret (mkA n f) w :=
  ⟨rfl, _, results_list (l := [r1, r2, r3]) (vs := [v1, v2, v3]) hr (fun j r v a b => by
    match j with
    | 0 => simp at a b; subst a b; exact h1
    | 1 => simp at a b; subst a b; exact h2
    | 2 => simp at a b; subst a b; exact h3
    | j + 3 => simp at a) rfl (by simp), hR⟩
theorem e_r4 (hr : fn.results = #[r1, r2, r3, r4]) (h1 : RV P n f w r1 v1) (h2 : RV P n f w r2 v2) (h3 : RV P n f w r3 v3) (h4 : RV P n f w r4 v4) (hR : R (.returned (.tuple #[v1, v2, v3, v4])) w) : bodyPost P fn R .ret (mkA n f) w :=
  ⟨rfl, _, results_list (l := [r1, r2, r3, r4]) (vs := [v1, v2, v3, v4]) hr (fun j r v a b => by
    match j with
    | 0 => simp at a b; subst a b; exact h1
    | 1 => simp at a b; subst a b; exact h2
    | 2 => simp at a b; subst a b; exact h3
    | 3 => simp at a b; subst a b; exact h4
    | j + 4 => simp at a) rfl (by simp), hR⟩

/-! typed lists of cells -/
theorem St.eq1 {g : Nat} {tt : TypeId} {l l' : List Value} (H : St w0 X ([(g, Rw tt l)] :: L) w) (e : l = l') : St w0 X ([(g, Rw tt l')] :: L) w := e ▸ H
theorem St.take (H : St w0 X L w) (m : Nat) (h : L.take m = L') : St w0 X L' w := h ▸ H.sub (List.take_sublist m L)
theorem St.nilp (H : St w0 X L w) : St w0 X ([] :: L) w := ⟨H.os, H.tape, H.output, H.size, H.keep, fun E hE => by
    rcases List.mem_cons.1 hE with rfl | h
    · simp
    · exact H.own E h, fun E hE => by
    rcases List.mem_cons.1 hE with rfl | h
    · simp
    · exact H.new E h, List.pairwise_cons.2 ⟨by simp, H.dj⟩⟩
theorem map_one {α : Type} {F : α → Value} (hF : ∀ a, (F a).oneCell' = true) (l : List α) : ∀ u ∈ l.map F, u.oneCell' = true := by
  intro u hu
  obtain ⟨a, -, rfl⟩ := List.mem_map.1 hu
  exact hF a
theorem ow_storeM {α : Type} {F : α → Value} {g k j : Nat} {tt : TypeId} {l : List α} {z : α} (hF : ∀ a, (F a).oneCell' = true) (H : St w0 X ([(g, Rw tt (l.map F))] :: L) w) (hs : Sz P t 1) (hx : ev n f x = Ad (bs g) k) (hy : ev n f y = F z)
    (hj : k = j) (hk : j < l.length) : OW P n f (.store t x y) ty w (fun _ w' => St w0 X ([(g, Rw tt ((l.set j z).map F))] :: L) w') :=
  (ow_store H hs hx hy (hF z) hj (by simpa using hk)).mono fun _ _ h => h.eq1 List.map_set.symm
/-- The whole of a block is stored. -/
theorem ow_storeW {g s : Nat} {tt : TypeId} {l us : List Value} (H : St w0 X ([(g, Rw tt l)] :: L) w) (hs : Sz P t s) (hl : us.length = s) (hx : ev n f x = Ad (bs g) 0) (hy : ev n f y = .agg us.toArray)
    (h1 : ∀ u ∈ us, u.oneCell' = true) (hk : l.length = s) : OW P n f (.store t x y) ty w (fun _ w' => St w0 X ([(g, Rw tt us)] :: L) w') :=
  (ow_storeA H hs hl hx hy h1 (by omega)).mono fun _ _ h => h.eq1 (by simp [← hk])
/-- The whole of a block is loaded. -/
theorem y_loadW {g s i : Nat} {tt : TypeId} {us : List Value} (H : St w0 X L w) (hi : L[i]? = some [(g, Rw tt us)]) (ht : aggr P t) (hs : Sz P t s) (hl : us.length = s) (hx : ev n f x = Ad (bs g) 0) :
    Y P n f (.load t x) ty w (.agg us.toArray) w := y_loadA ht hs hl hx fun j u hu => by rw [Nat.zero_add]; exact H.cell i hi hu
theorem p_nil {Q : Exit → Act → World → Prop} {ops : Array Oper} {S : World → Prop} {a : Act} (h : Q .normal a w) : wpP P ops S (fun a w => Q .normal a w) .nil a w := h
theorem drawS {id : Nat} {l : List Oper} {Q : Exit → Act → World → Prop} {a : Act} (plan : Plan) (hm : P.follows .mixedOrders = true) (H : St w0 X L w)
    (hs : Region.noSelect l.toArray = true) (hok : planOk l.toArray l.length false plan (Array.replicate l.length false) = true) (ht : tailOk l.toArray plan.all = true)
    (h : ∀ w1, St w0 X L w1 → wpP P l.toArray (fun w => St w0 X L w) (fun a w => Q .normal a w) plan a w1) : (Code.region id l.toArray true).wp P Q a w :=
  draw plan (fun w => St w0 X L w) hm hs hok ht H.draw (h _ H.draw)
/-- The same, where some parts are written into ahead of the end: what holds throughout is said of the others. -/
theorem drawSub {id : Nat} {l : List Oper} {Q : Exit → Act → World → Prop} {a : Act} (plan : Plan) (hm : P.follows .mixedOrders = true) (H : St w0 X L w) (hsub : ∀ w, St w0 X L w → St w0 X L' w)
    (hs : Region.noSelect l.toArray = true) (hok : planOk l.toArray l.length false plan (Array.replicate l.length false) = true) (ht : tailOk l.toArray plan.all = true)
    (h : ∀ w1, St w0 X L w1 → wpP P l.toArray (fun w => St w0 X L' w) (fun a w => Q .normal a w) plan a w1) : (Code.region id l.toArray true).wp P Q a w :=
  draw plan (fun w => St w0 X L' w) hm hs hok ht (hsub _ H.draw) (h _ H.draw)
end
theorem one8 (x : UInt8) : (B8 x).oneCell' = true := rfl
theorem one32 (x : UInt32) : (U32 x).oneCell' = true := rfl
theorem one64 (x : UInt64) : (U64 x).oneCell' = true := rfl
end Go.Proofs.Ytdcmbcjkdhdohaa
