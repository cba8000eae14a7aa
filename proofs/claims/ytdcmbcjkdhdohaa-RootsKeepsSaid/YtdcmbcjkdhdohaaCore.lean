/- A small layer over the model's weakest preconditions: frames as functions of a slot's number, one rule a form of code. It holds for every program that follows mixed orders where a region draws. -/
import Derived.Test.YtdcmbcjkdhdohaaRows
import Derived.OrdersHeld
import Derived.Tactics
import Derived.Tactics2
import Derived.Below
import Derived.KernelRfl
namespace Go.Proofs.Ytdcmbcjkdhdohaa
open Go Go.RowKit

/-! ### Frames -/
def upd (f : Nat → Value) (d : Nat) (v : Value) : Nat → Value := fun i => bif Nat.beq i d then v else f i
def mkA (n : Nat) (f : Nat → Value) : Act := { tmps := Array.ofFn (fun i : Fin n => f i.val), defers := [] }
def ev (n : Nat) (f : Nat → Value) : Operand → Value
  | .tmp t => bif Nat.blt t n then f t else undef
  | .const v => v
  | .global g => .pointer (some ⟨g, 0, none⟩)
  | .func g => .func (.func g) #[] #[]

theorem getD_mkA (n : Nat) (f : Nat → Value) (t : Nat) : (mkA n f).tmps.getD t undef = bif Nat.blt t n then f t else undef := by
  simp only [mkA, Array.getD_eq_getD_getElem?, Array.getElem?_ofFn]
  by_cases h : t < n
  · have : Nat.blt t n = true := by simpa [Nat.blt_eq] using h
    simp [h, this]
  · have : Nat.blt t n = false := by
      rw [Bool.eq_false_iff]; intro hh; exact h (by simpa [Nat.blt_eq] using hh)
    simp [h, this]

theorem eval_mkA (n : Nat) (f : Nat → Value) : (mkA n f).eval = ev n f := by
  funext x
  cases x with
  | tmp t => exact getD_mkA n f t
  | const v => rfl
  | global g => rfl
  | func g => rfl

theorem put_mkA (n : Nat) (f : Nat → Value) (d : Nat) (v : Value) : (mkA n f).put (some d) v = mkA n (upd f d v) := by
  simp only [mkA, Act.put, Act.mk.injEq, and_true]
  apply Array.ext
  · simp
  · intro i h1 h2
    simp only [Array.size_ofFn] at h2
    simp only [Array.getElem_ofFn, upd]
    rw [Array.getElem_setIfInBounds (by simpa using h1)]
    by_cases h : d = i
    · subst h; simp [Nat.beq_refl]
    · have : Nat.beq i d = false := by
        rw [Bool.eq_false_iff]; intro hh; exact h (Nat.eq_of_beq_eq_true hh).symm
      simp [h, this]

def arg : List Value → Nat → Value
  | v :: _, 0 => v
  | _ :: l, n + 1 => arg l n
  | [], _ => undef

theorem arg_eq (l : List Value) (i : Nat) : arg l i = l.getD i undef := by
  induction l generalizing i with
  | nil => rfl
  | cons v l ih => cases i with
    | zero => rfl
    | succ i => simpa [arg] using ih i

theorem init_mkA (args : List Value) (n : Nat) (h : args.length ≤ n) :
    ({ tmps := args.toArray ++ Array.replicate (n - args.toArray.size) undef, defers := [] } : Act) = mkA n (arg args) := by
  simp only [mkA, Act.mk.injEq, and_true]
  apply Array.ext
  · simp; omega
  · intro i h1 h2
    simp only [Array.getElem_ofFn, arg_eq]
    rw [Array.getElem_append]
    split
    · rename_i hlt
      simp at hlt
      simp [List.getD, hlt]
    · rename_i hge
      simp at hge
      simp [List.getD, List.getElem?_eq_none hge]

/-- A call of a function of the program, by its body. -/
theorem calls_mk {P : Program} {k : FuncId} {fn : Func} {c : Code} {args : List Value} {w : World} {R : Ending → World → Prop}
    (hf : P.funcs[k]? = some fn) (hb : fn.body = some c) (n : Nat) (hn : fn.ntmps = n) (hl : Nat.ble args.length n = true)
    (h : c.wp P (bodyPost P fn R) (mkA n (arg args)) w) : Calls P k args.toArray w R := by
  refine calls_of_wp hf hb ?_
  rw [hn, init_mkA args n (Nat.le_of_ble_eq_true hl)]
  exact h

/-! ### An operation, and the walk over a region -/
section
variable {P : Program} {n : Nat} {f : Nat → Value} {op : Op} {ty : TypeId} {w : World}

/-- The operation leaves v, and the world w'. -/
def Y (P : Program) (n : Nat) (f : Nat → Value) (op : Op) (ty : TypeId) (w : World) (v : Value) (w' : World) : Prop :=
  ∀ o : Oper, o.op = op → o.type = ty → (execOp (ev n f) o).run P w = .ok (.value v) w'
/-- The operation comes to a value and a world of which K holds. -/
def OW (P : Program) (n : Nat) (f : Nat → Value) (op : Op) (ty : TypeId) (w : World) (K : Value → World → Prop) : Prop :=
  ∀ (o : Oper) (K' : Act → World → Prop) (Q : Exit → Act → World → Prop), o.op = op → o.type = ty →
    (∀ v w', K v w' → K' ((mkA n f).put o.dst v) w') → o.wp P (mkA n f) w K' Q

theorem ow_of_y {v : Value} {w' : World} {K : Value → World → Prop} (h : Y P n f op ty w v w') (hk : K v w') : OW P n f op ty w K := by
  intro o K' Q ho ht hK
  unfold Oper.wp
  rw [eval_mkA, h o ho ht]
  exact hK v w' hk

theorem OW.mono {K K2 : Value → World → Prop} (h : OW P n f op ty w K) (hk : ∀ v w', K v w' → K2 v w') : OW P n f op ty w K2 :=
  fun o K' Q ho ht hK => h o K' Q ho ht fun v w' hv => hK v w' (hk v w' hv)

variable {ops : Array Oper} {Q : Exit → Act → World → Prop} {rest : List Oper} {pos : String} {af : Array Edge} {d : Nat}

theorem st {K : Value → World → Prop} (h : OW P n f op ty w K) (k : ∀ v w', K v w' → wpList P ops Q rest (mkA n (upd f d v)) w') :
    wpList P ops Q (⟨some d, op, ty, pos, af, none⟩ :: rest) (mkA n f) w :=
  wpList_plain rfl fun _ hK => h _ _ _ rfl rfl fun v w' hv => by rw [put_mkA]; exact hK _ _ (k v w' hv)

theorem sy {v : Value} {w' : World} (h : Y P n f op ty w v w') (k : wpList P ops Q rest (mkA n (upd f d v)) w') :
    wpList P ops Q (⟨some d, op, ty, pos, af, none⟩ :: rest) (mkA n f) w :=
  st (K := fun v1 w1 => v1 = v ∧ w1 = w') (ow_of_y h ⟨rfl, rfl⟩) (by rintro _ _ ⟨rfl, rfl⟩; exact k)

/-- An operation that leaves nothing. -/
theorem s0 {K : Value → World → Prop} (h : OW P n f op ty w K) (k : ∀ v w', K v w' → wpList P ops Q rest (mkA n f) w') :
    wpList P ops Q (⟨none, op, ty, pos, af, none⟩ :: rest) (mkA n f) w :=
  wpList_plain rfl fun _ hK => h _ _ _ rfl rfl fun v w' hv => hK _ _ (k v w' hv)

/-- What a guard's temporary holds. -/
def gv (n : Nat) (ops : Array Oper) (f : Nat → Value) (j : Nat) : Option Value := ((ops[j]?).bind (·.dst)).map fun t => ev n f (.tmp t)

theorem yielded_mkA {j : Nat} {t : Bool} (h : gv n ops f j = some (.bool t)) : yielded ops (mkA n f).tmps j = some t := by
  unfold gv at h
  unfold yielded
  cases hd : (ops[j]?).bind (·.dst) with
  | none => simp [hd] at h
  | some t' =>
    simp only [hd, Option.map_some, Option.some.injEq] at h
    simp only [Option.bind_some]
    by_cases hlt : t' < n
    · have h1 : Nat.blt t' n = true := by simpa [Nat.blt_eq] using hlt
      simp only [ev, h1, cond_true] at h
      simp [mkA, hlt, h]
    · have h1 : Nat.blt t' n = false := by
        rw [Bool.eq_false_iff]; intro hh; exact hlt (by simpa [Nat.blt_eq] using hh)
      simp [ev, h1, undef] at h

theorem wanted_yes {o : Oper} {j : Nat} {b t : Bool} (ho : o.guard = some (j, b)) (hg : gv n ops f j = some (.bool t)) (ht : t = b) :
    Region.wanted o (yielded ops (mkA n f).tmps) = true := by
  subst ht
  simp [Region.wanted, ho, yielded_mkA hg]
theorem wanted_no {o : Oper} {j : Nat} {b t : Bool} (ho : o.guard = some (j, b)) (hg : gv n ops f j = some (.bool t)) (ht : t = !b) :
    Region.wanted o (yielded ops (mkA n f).tmps) = false := by
  subst ht
  simp [Region.wanted, ho, yielded_mkA hg]
/-- The guard's own operation was not carried out. -/
theorem wanted_un {o : Oper} {j : Nat} {b : Bool} (ho : o.guard = some (j, b)) (hg : gv n ops f j = some undef) :
    Region.wanted o (yielded ops (mkA n f).tmps) = false := by
  have : yielded ops (mkA n f).tmps j = none := by
    unfold gv at hg
    unfold yielded
    cases hd : (ops[j]?).bind (·.dst) with
    | none => simp
    | some t' =>
      simp only [hd, Option.map_some, Option.some.injEq] at hg
      simp only [Option.bind_some]
      by_cases hlt : t' < n
      · have h1 : Nat.blt t' n = true := by simpa [Nat.blt_eq] using hlt
        simp only [ev, h1, cond_true] at hg
        simp [mkA, hlt, hg, undef]
      · simp [mkA, hlt]
  simp [Region.wanted, ho, this]

theorem gst {K : Value → World → Prop} {j : Nat} {b t : Bool} (hg : gv n ops f j = some (.bool t)) (ht : t = b) (h : OW P n f op ty w K)
    (k : ∀ v w', K v w' → wpList P ops Q rest (mkA n (upd f d v)) w') :
    wpList P ops Q (⟨some d, op, ty, pos, af, some (j, b)⟩ :: rest) (mkA n f) w :=
  wpList_step fun _ hK => by
    rw [if_pos (wanted_yes rfl hg ht)]
    exact h _ _ _ rfl rfl fun v w' hv => by rw [put_mkA]; exact hK _ _ (k v w' hv)
theorem gsy {v : Value} {w' : World} {j : Nat} {b t : Bool} (hg : gv n ops f j = some (.bool t)) (ht : t = b) (h : Y P n f op ty w v w')
    (k : wpList P ops Q rest (mkA n (upd f d v)) w') : wpList P ops Q (⟨some d, op, ty, pos, af, some (j, b)⟩ :: rest) (mkA n f) w :=
  gst (K := fun v1 w1 => v1 = v ∧ w1 = w') hg ht (ow_of_y h ⟨rfl, rfl⟩) (by rintro _ _ ⟨rfl, rfl⟩; exact k)
theorem gno {j : Nat} {b t : Bool} (hg : gv n ops f j = some (.bool t)) (ht : t = !b)
    (k : wpList P ops Q rest (mkA n (upd f d undef)) w) : wpList P ops Q (⟨some d, op, ty, pos, af, some (j, b)⟩ :: rest) (mkA n f) w :=
  wpList_skip (wanted_no rfl hg ht) (by rw [put_mkA]; exact k)
theorem gun {j : Nat} {b : Bool} (hg : gv n ops f j = some undef)
    (k : wpList P ops Q rest (mkA n (upd f d undef)) w) : wpList P ops Q (⟨some d, op, ty, pos, af, some (j, b)⟩ :: rest) (mkA n f) w :=
  wpList_skip (wanted_un rfl hg) (by rw [put_mkA]; exact k)
end

/-! ### Regions that draw their order -/
section
variable {P : Program} {ops : Array Oper} {Q : Exit → Act → World → Prop} {S : World → Prop} {K : Act → World → Prop} {tls : Nat → Bool}

/-- Whatever order is picked from here on; behind each operation but the last ones ('tls') S holds. -/
def wpG (P : Program) (ops : Array Oper) (Q : Exit → Act → World → Prop) (S : World → Prop) (tls : Nat → Bool) : Nat → Array Bool → Act → World → Prop
  | 0, listed, a, w => Region.ready .any ops listed = [] ∧ Q .normal a w
  | m + 1, listed, a, w => (Region.ready .any ops listed = [] → Q .normal a w) ∧
      ∀ i ∈ Region.ready .any ops listed, wpOp P ops Q i (fun a' w' => (tls i = true ∨ S w') ∧ wpG P ops Q S tls m (listed.setIfInBounds i true) a' w') a w

theorem any_of_G : ∀ (m : Nat) (listed : Array Bool) (a : Act) (w : World), wpG P ops Q S tls m listed a w → wpAny P .any ops Q m listed a w
  | 0, _, _, _, h => h
  | m + 1, _, _, _, h => ⟨h.1, fun i hi => wpOp_mono (fun _ _ h' => any_of_G m _ _ _ h'.2) (h.2 i hi)⟩

theorem not_listed_of_ready {i : Nat} {listed : Array Bool} (h : i ∈ Region.ready .any ops listed) : listed.getD i false = false := by
  have h0 := (mem_ready.1 h).1
  rcases Nat.lt_or_ge i listed.size with h' | h'
  · simp [h'] at h0 ⊢; exact h0
  · simp [Array.getElem?_eq_none h'] at h0

/-- A pure operation may be taken first. -/
theorem G_first {i : Nat} {oi : Oper} {v : Value} (hi : ops[i]? = some oi) (hsel : ∀ (j : Nat) (o : Oper) cs b, ops[j]? = some o → o.op ≠ .select cs b)
    (hQ : ∀ c a w, Q (.panic c) (a.put oi.dst v) w → Q (.panic c) a w)
    (htl : ∀ (j : Nat) oj, ops[j]? = some oj → tls j = true → j ≠ i → ∃ e ∈ oj.after, Region.binds .any e = true ∧ e.on = i) (m : Nat) :
    ∀ (listed : Array Bool) (a : Act) (w : World),
      (∀ (j : Nat) oj, ops[j]? = some oj → j ≠ i → listed.getD j true = false → (∀ e ∈ oj.after, Region.binds .any e = true → e.on ≠ i) → oi.apart ops oj = true) →
      i ∈ Region.ready .any ops listed → YieldsIf P ops S oi v a → S w →
      wpG P ops Q S tls m (listed.setIfInBounds i true) (a.put oi.dst v) w → wpG P ops Q S tls (m + 1) listed a w := by
  induction m with
  | zero =>
    intro listed a w _ hr hy hS H
    refine ⟨fun h0 => absurd hr (by simp [h0]), fun j hj => ?_⟩
    by_cases hji : j = i
    · subst hji
      exact hy.wpOp hi hS ⟨.inr hS, H⟩
    · exact absurd (ready_mono hj hji) (by simp [H.1])
  | succ m ih =>
    intro listed a w hfree hr hy hS H
    refine ⟨fun h0 => absurd hr (by simp [h0]), fun j hj => ?_⟩
    by_cases hji : j = i
    · subst hji
      exact hy.wpOp hi hS ⟨.inr hS, H⟩
    · obtain ⟨hjun, oj, hoj, hall⟩ := mem_ready.1 hj
      have hun := not_listed_of_ready hr
      have hno : ∀ e ∈ oj.after, Region.binds .any e = true → e.on ≠ i := fun e he hb hon => by
        have := hall e he hb
        rw [hon, hun] at this
        cases this
      have hnt : tls j = false := by
        cases ht : tls j with
        | false => rfl
        | true =>
          obtain ⟨e, he, hb, hon⟩ := htl j oj hoj ht hji
          exact absurd hon (hno e he hb)
      have h2 := wpOp_putIf hoj (hfree j oj hoj hji hjun hno) (fun cs b => hsel i oi cs b hi) (fun cs b => hsel j oj cs b hoj) hQ hy (H.2 j (ready_mono hj hji))
      refine wpOp_mono (fun a' w' h3 => ?_) h2
      obtain ⟨hy', hS', hG⟩ := h3
      have hS2 : S w' := hS'.resolve_left (by simp [hnt])
      refine ⟨hS', ih (listed.setIfInBounds j true) a' w' (fun k ok hk hki hkun hkno => hfree k ok hk hki ?_ hkno) (ready_mono hr (Ne.symm hji)) hy' hS2 (by rw [Array.setIfInBounds_comm _ _ hji]; exact hG)⟩
      by_cases hjk : j = k
      · subst hjk; exact hjun
      · rwa [getD_set_ne true hjk] at hkun

/-- A plan for a region: 'step t i': operation i comes (t = 0: it is pure; 1: it is the only one that may come up; 2: likewise, and it waits for all pure ones); 'alt': one of several that may come up. -/
inductive Plan where
  | nil
  | step (t i : Nat) (rest : Plan)
  | alt (i : Nat) (rest more : Plan)
  | stop

def Plan.idx : Plan → List Nat
  | .alt i _ more => i :: more.idx
  | _ => []
/-- All that a plan names: which, and how. -/
def Plan.all : Plan → List (Nat × Nat)
  | .nil | .stop => []
  | .step t i rest => (t, i) :: rest.all
  | .alt i rest more => (1, i) :: (rest.all ++ more.all)

def wpP (P : Program) (ops : Array Oper) (S : World → Prop) (K : Act → World → Prop) : Plan → Act → World → Prop
  | .nil, a, w => K a w
  | .step 0 i rest, a, w => ∃ o v, ops[i]? = some o ∧ YieldsIf P ops S o v a ∧ wpP P ops S K rest (a.put o.dst v) w
  | .step 1 i rest, a, w => ∃ o, ops[i]? = some o ∧ Region.wanted o (yielded ops a.tmps) = true ∧
      o.wp P a w (fun a' w' => S w' ∧ wpP P ops S K rest a' w') (fun _ _ _ => False)
  | .step (_ + 2) i rest, a, w => ∃ o, ops[i]? = some o ∧ Region.wanted o (yielded ops a.tmps) = true ∧
      o.wp P a w (fun a' w' => wpP P ops S K rest a' w') (fun _ _ _ => False)
  | .alt i rest more, a, w => (∃ o, ops[i]? = some o ∧ Region.wanted o (yielded ops a.tmps) = true ∧
      o.wp P a w (fun a' w' => S w' ∧ wpP P ops S K rest a' w') (fun _ _ _ => False)) ∧ wpP P ops S K more a w
  | .stop, _, _ => True

def planOk (ops : Array Oper) : Nat → Bool → Plan → Array Bool → Bool
  | 0, false, .nil, listed => (Region.ready .any ops listed).isEmpty
  | m + 1, false, .step 0 i rest, listed => (Region.ready .any ops listed).contains i && Region.free .any ops listed i && planOk ops m false rest (listed.setIfInBounds i true)
  | m + 1, false, .step 1 i rest, listed => (Region.ready .any ops listed == [i]) && planOk ops m false rest (listed.setIfInBounds i true)
  | m + 1, false, .step (_ + 2) i rest, listed => (Region.ready .any ops listed == [i]) && rest.all.all (fun x => 2 ≤ x.1) && planOk ops m false rest (listed.setIfInBounds i true)
  | m + 1, false, .alt i rest more, listed => (Region.ready .any ops listed == i :: more.idx) && planOk ops m false rest (listed.setIfInBounds i true) && planOk ops (m + 1) true more listed
  | m + 1, true, .alt i rest more, listed => planOk ops m false rest (listed.setIfInBounds i true) && planOk ops (m + 1) true more listed
  | _, true, .stop, _ => true
  | _, _, _, _ => false
/-- The last ones wait for every pure one. -/
def tailOk (ops : Array Oper) (plan : List (Nat × Nat)) : Bool :=
  plan.all fun x => x.1 < 2 || plan.all fun y => 0 < y.1 || ((ops[x.2]?).map fun o => o.after.any fun e => Region.binds .any e && e.on == y.2).getD false
def isTail (plan : List (Nat × Nat)) (j : Nat) : Bool := plan.any fun x => 2 ≤ x.1 && x.2 == j

def onlyN (K : Act → World → Prop) : Exit → Act → World → Prop
  | .normal, a, w => K a w
  | _, _, _ => False

theorem wp_to (o : Oper) {a : Act} {w : World} {K1 : Act → World → Prop} {Q : Exit → Act → World → Prop}
    (h : o.wp P a w K1 (fun _ _ _ => False)) : o.wp P a w K1 Q := by
  unfold Oper.wp at *
  generalize (execOp a.eval o).run P w = r at *
  cases r with
  | ok x w' =>
    cases x <;> simp only [Oper.upon] at h ⊢ <;> first | exact h | skip
    case enter f args =>
      refine Calls.mono h fun e w'' he => ?_
      cases e with
      | returned u => exact he
      | panicked c => exact he.elim
      | outgrown => obtain ⟨_, _, h⟩ := he; exact h.elim
  | halt x w' => cases x <;> simp only [Oper.upon] at h ⊢ <;> exact h.elim

theorem tail_edge {plan : List (Nat × Nat)} (ht : tailOk ops plan = true) {i j : Nat} {oj : Oper} (hi : (0, i) ∈ plan) (hj : isTail plan j = true) (ho : ops[j]? = some oj) :
    ∃ e ∈ oj.after, Region.binds .any e = true ∧ e.on = i := by
  obtain ⟨x, hx, hxj⟩ := List.any_eq_true.1 hj
  simp only [Bool.and_eq_true, decide_eq_true_eq, beq_iff_eq] at hxj
  have h1 := List.all_eq_true.1 ht x hx
  have hlt : ¬ x.1 < 2 := by omega
  simp only [hlt, decide_false, Bool.false_or] at h1
  have h2 := List.all_eq_true.1 h1 (0, i) hi
  simp only [Nat.lt_irrefl, decide_false, Bool.false_or, hxj.2, ho, Option.map_some, Option.getD_some] at h2
  rw [Array.any_eq_true'] at h2
  obtain ⟨e, he, hb⟩ := h2
  simp only [Bool.and_eq_true, beq_iff_eq] at hb
  exact ⟨e, he, hb.1, hb.2⟩

theorem plan_G (hs : Region.noSelect ops = true) (full : List (Nat × Nat)) (ht : tailOk ops full = true) : ∀ (plan : Plan) (m : Nat) (b : Bool) (listed : Array Bool) (a : Act) (w : World),
    (∀ x ∈ plan.all, x ∈ full) → planOk ops m b plan listed = true → ((∃ x ∈ plan.all, x.1 < 2) → S w) → wpP P ops S K plan a w →
      if b then ∀ j ∈ plan.idx, wpOp P ops (onlyN K) j (fun a' w' => (isTail full j = true ∨ S w') ∧ wpG P ops (onlyN K) S (isTail full) (m - 1) (listed.setIfInBounds j true) a' w') a w
      else wpG P ops (onlyN K) S (isTail full) m listed a w := by
  intro plan
  induction plan with
  | nil =>
    intro m b listed a w hf hok hS h
    cases b with
    | true => simp [Plan.idx]
    | false =>
      cases m with
      | zero => exact ⟨by simpa [planOk] using hok, h⟩
      | succ m => simp [planOk] at hok
  | stop =>
    intro m b listed a w hf hok hS h
    cases b with
    | true => simp [Plan.idx]
    | false => cases m <;> simp [planOk] at hok
  | step t i rest ih =>
    intro m b listed a w hf hok hS h
    cases b with
    | true => simp [Plan.idx]
    | false =>
      cases m with
      | zero => simp [planOk] at hok
      | succ m =>
        simp only [Bool.false_eq_true, if_false]
        have hf' : ∀ x ∈ rest.all, x ∈ full := fun x hx => hf x (by simp [Plan.all, hx])
        match t with
        | 0 =>
          obtain ⟨o, v, ho, hy, hr⟩ := h
          simp only [planOk, Bool.and_eq_true] at hok
          have := ih m false _ _ _ hf' hok.2 (fun _ => hS ⟨(0, i), by simp [Plan.all], by show (0 : Nat) < 2; omega⟩) hr
          simp only [Bool.false_eq_true, if_false] at this
          exact G_first ho (Region.noSelect_spec hs) (fun _ _ _ h => h) (fun j oj hoj hj _ => tail_edge ht (hf _ (by simp [Plan.all])) hj hoj) m listed a w
            (Region.free_spec ho hok.1.2) (by simpa using hok.1.1) hy (hS ⟨(0, i), by simp [Plan.all], by show (0 : Nat) < 2; omega⟩) this
        | 1 =>
          obtain ⟨o, ho, hw, hr⟩ := h
          simp only [planOk, Bool.and_eq_true, beq_iff_eq] at hok
          refine ⟨fun h0 => absurd h0 (by simp [hok.1]), fun j hj => ?_⟩
          rw [hok.1, List.mem_singleton] at hj
          subst hj
          unfold wpOp
          simp only [ho, hw, if_true]
          refine .inl (wp_to o (Oper.wp_mono (fun a' w' h' => ⟨.inr h'.1, ?_⟩) hr))
          have := ih m false _ _ _ hf' hok.2 (fun _ => h'.1) h'.2
          simpa using this
        | t + 2 =>
          obtain ⟨o, ho, hw, hr⟩ := h
          simp only [planOk, Bool.and_eq_true, beq_iff_eq] at hok
          refine ⟨fun h0 => absurd h0 (by simp [hok.1.1]), fun j hj => ?_⟩
          rw [hok.1.1, List.mem_singleton] at hj
          subst hj
          unfold wpOp
          simp only [ho, hw, if_true]
          refine .inl (wp_to o (Oper.wp_mono (fun a' w' h' => ⟨.inl ?_, ?_⟩) hr))
          · exact List.any_eq_true.2 ⟨(t + 2, j), hf _ (by simp [Plan.all]), by simp⟩
          · have := ih m false _ _ _ hf' hok.2 (fun ⟨x, hx, hlt⟩ => by
              have := List.all_eq_true.1 hok.1.2 x hx
              simp only [decide_eq_true_eq] at this
              omega) h'
            simpa using this
  | alt i rest more ih1 ih2 =>
    intro m b listed a w hf hok hS h
    have hf1 : ∀ x ∈ rest.all, x ∈ full := fun x hx => hf x (by simp [Plan.all, hx])
    have hf2 : ∀ x ∈ more.all, x ∈ full := fun x hx => hf x (by simp [Plan.all, hx])
    have hS2 : (∃ x ∈ more.all, x.1 < 2) → S w := fun _ => hS ⟨(1, i), by simp [Plan.all], by show (1 : Nat) < 2; omega⟩
    cases m with
    | zero => cases b <;> simp [planOk] at hok
    | succ m =>
      obtain ⟨⟨o, ho, hw, hr⟩, hm⟩ := h
      have one : planOk ops m false rest (listed.setIfInBounds i true) = true →
          wpOp P ops (onlyN K) i (fun a' w' => (isTail full i = true ∨ S w') ∧ wpG P ops (onlyN K) S (isTail full) m (listed.setIfInBounds i true) a' w') a w := by
        intro hok1
        unfold wpOp
        simp only [ho, hw, if_true]
        refine .inl (wp_to o (Oper.wp_mono (fun a' w' h' => ⟨.inr h'.1, ?_⟩) hr))
        have := ih1 m false _ _ _ hf1 hok1 (fun _ => h'.1) h'.2
        simpa using this
      cases b with
      | true =>
        simp only [planOk, Bool.and_eq_true] at hok
        simp only [if_true]
        intro j hj
        rcases List.mem_cons.1 hj with rfl | hj
        · exact one hok.1
        · have := ih2 (m + 1) true listed a w hf2 hok.2 hS2 hm
          simp only [if_true] at this
          exact this j hj
      | false =>
        simp only [planOk, Bool.and_eq_true, beq_iff_eq] at hok
        simp only [Bool.false_eq_true, if_false]
        refine ⟨fun h0 => absurd h0 (by simp [hok.1.1]), fun j hj => ?_⟩
        rw [hok.1.1] at hj
        rcases List.mem_cons.1 hj with rfl | hj
        · exact one hok.1.2
        · have := ih2 (m + 1) true listed a w hf2 hok.2 hS2 hm
          simp only [if_true] at this
          exact this j hj

theorem draw {id : Nat} {l : List Oper} {a : Act} {w : World} (plan : Plan) (S : World → Prop) (hm : P.follows .mixedOrders = true)
    (hs : Region.noSelect l.toArray = true) (hok : planOk l.toArray l.length false plan (Array.replicate l.length false) = true) (ht : tailOk l.toArray plan.all = true)
    (hS : S { w with drawn := w.drawn + 1 })
    (h : wpP P l.toArray S (fun a w => Q .normal a w) plan a { w with drawn := w.drawn + 1 }) : (Code.region id l.toArray true).wp P Q a w := by
  refine wp_mono (Q := onlyN fun a w => Q .normal a w) ?_ (fun e a w hq => ?_)
  · refine wp_region_any hm ?_
    have := plan_G (S := S) (K := fun a w => Q .normal a w) hs plan.all ht plan l.length false (Array.replicate l.length false) a _ (fun _ h => h) hok (fun _ => hS) h
    simp only [Bool.false_eq_true, if_false] at this
    have := any_of_G _ _ _ _ this
    simpa using this
  · cases e with
    | normal => exact hq
    | _ => exact hq.elim

variable {n : Nat} {f : Nat → Value} {op : Op} {ty : TypeId} {w : World} {rest more : Plan} {i d : Nat} {pos : String} {af : Array Edge}

/-- A pure operation of a drawn region. -/
theorem pt {v : Value} (hi : ops[i]? = some ⟨some d, op, ty, pos, af, none⟩) (h : ∀ w, S w → Y P n f op ty w v w)
    (k : wpP P ops S K rest (mkA n (upd f d v)) w) : wpP P ops S K (.step 0 i rest) (mkA n f) w :=
  ⟨_, v, hi, .inl ⟨rfl, fun w hw => by rw [eval_mkA]; exact h w hw _ rfl rfl⟩, by simp only [put_mkA]; exact k⟩
theorem pl {K1 : Value → World → Prop} (hi : ops[i]? = some ⟨some d, op, ty, pos, af, none⟩) (h : OW P n f op ty w K1)
    (k : ∀ v w', K1 v w' → S w' ∧ wpP P ops S K rest (mkA n (upd f d v)) w') : wpP P ops S K (.step 1 i rest) (mkA n f) w :=
  ⟨_, hi, rfl, h _ _ _ rfl rfl fun v w' hv => by rw [put_mkA]; exact k v w' hv⟩
/-- One that changes nothing, where it is the only one that may come up. -/
theorem ply {v : Value} {w' : World} (hi : ops[i]? = some ⟨some d, op, ty, pos, af, none⟩) (h : Y P n f op ty w v w') (hS : S w')
    (k : wpP P ops S K rest (mkA n (upd f d v)) w') : wpP P ops S K (.step 1 i rest) (mkA n f) w :=
  pl (K1 := fun v1 w1 => v1 = v ∧ w1 = w') hi (ow_of_y h ⟨rfl, rfl⟩) (by rintro _ _ ⟨rfl, rfl⟩; exact ⟨hS, k⟩)
theorem p0 {K1 : Value → World → Prop} (hi : ops[i]? = some ⟨none, op, ty, pos, af, none⟩) (h : OW P n f op ty w K1)
    (k : ∀ v w', K1 v w' → S w' ∧ wpP P ops S K rest (mkA n f) w') : wpP P ops S K (.step 1 i rest) (mkA n f) w :=
  ⟨_, hi, rfl, h _ _ _ rfl rfl fun v w' hv => k v w' hv⟩
/-- One of several that may come up. -/
theorem al {K1 : Value → World → Prop} (hi : ops[i]? = some ⟨some d, op, ty, pos, af, none⟩) (h : OW P n f op ty w K1)
    (k : ∀ v w', K1 v w' → S w' ∧ wpP P ops S K rest (mkA n (upd f d v)) w') (hm : wpP P ops S K more (mkA n f) w) : wpP P ops S K (.alt i rest more) (mkA n f) w :=
  ⟨⟨_, hi, rfl, h _ _ _ rfl rfl fun v w' hv => by rw [put_mkA]; exact k v w' hv⟩, hm⟩
theorem a0 {K1 : Value → World → Prop} (hi : ops[i]? = some ⟨none, op, ty, pos, af, none⟩) (h : OW P n f op ty w K1)
    (k : ∀ v w', K1 v w' → S w' ∧ wpP P ops S K rest (mkA n f) w') (hm : wpP P ops S K more (mkA n f) w) : wpP P ops S K (.alt i rest more) (mkA n f) w :=
  ⟨⟨_, hi, rfl, h _ _ _ rfl rfl fun v w' hv => k v w' hv⟩, hm⟩
theorem a_stop {a : Act} : wpP P ops S K .stop a w := trivial
/-- The last ones. -/
theorem tl {K1 : Value → World → Prop} (hi : ops[i]? = some ⟨some d, op, ty, pos, af, none⟩) (h : OW P n f op ty w K1)
    (k : ∀ v w', K1 v w' → wpP P ops S K rest (mkA n (upd f d v)) w') : wpP P ops S K (.step 2 i rest) (mkA n f) w :=
  ⟨_, hi, rfl, h _ _ _ rfl rfl fun v w' hv => by rw [put_mkA]; exact k v w' hv⟩
theorem tly {v : Value} {w' : World} (hi : ops[i]? = some ⟨some d, op, ty, pos, af, none⟩) (h : Y P n f op ty w v w')
    (k : wpP P ops S K rest (mkA n (upd f d v)) w') : wpP P ops S K (.step 2 i rest) (mkA n f) w :=
  tl (K1 := fun v1 w1 => v1 = v ∧ w1 = w') hi (ow_of_y h ⟨rfl, rfl⟩) (by rintro _ _ ⟨rfl, rfl⟩; exact k)
theorem t0 {K1 : Value → World → Prop} (hi : ops[i]? = some ⟨none, op, ty, pos, af, none⟩) (h : OW P n f op ty w K1)
    (k : ∀ v w', K1 v w' → wpP P ops S K rest (mkA n f) w') : wpP P ops S K (.step 2 i rest) (mkA n f) w :=
  ⟨_, hi, rfl, h _ _ _ rfl rfl fun v w' hv => k v w' hv⟩
theorem gpt {v : Value} {j : Nat} {b t : Bool} (hi : ops[i]? = some ⟨some d, op, ty, pos, af, some (j, b)⟩) (hg : gv n ops f j = some (.bool t)) (ht : t = b)
    (h : ∀ w, S w → Y P n f op ty w v w) (k : wpP P ops S K rest (mkA n (upd f d v)) w) : wpP P ops S K (.step 0 i rest) (mkA n f) w :=
  ⟨_, v, hi, .inl ⟨wanted_yes rfl hg ht, fun w hw => by rw [eval_mkA]; exact h w hw _ rfl rfl⟩, by simp only [put_mkA]; exact k⟩
theorem gpl {K1 : Value → World → Prop} {j : Nat} {b t : Bool} (hi : ops[i]? = some ⟨some d, op, ty, pos, af, some (j, b)⟩) (hg : gv n ops f j = some (.bool t)) (ht : t = b)
    (h : OW P n f op ty w K1) (k : ∀ v w', K1 v w' → S w' ∧ wpP P ops S K rest (mkA n (upd f d v)) w') : wpP P ops S K (.step 1 i rest) (mkA n f) w :=
  ⟨_, hi, wanted_yes rfl hg ht, h _ _ _ rfl rfl fun v w' hv => by rw [put_mkA]; exact k v w' hv⟩
theorem gply {v : Value} {w' : World} {j : Nat} {b t : Bool} (hi : ops[i]? = some ⟨some d, op, ty, pos, af, some (j, b)⟩) (hg : gv n ops f j = some (.bool t)) (ht : t = b)
    (h : Y P n f op ty w v w') (hS : S w') (k : wpP P ops S K rest (mkA n (upd f d v)) w') : wpP P ops S K (.step 1 i rest) (mkA n f) w :=
  gpl (K1 := fun v1 w1 => v1 = v ∧ w1 = w') hi hg ht (ow_of_y h ⟨rfl, rfl⟩) (by rintro _ _ ⟨rfl, rfl⟩; exact ⟨hS, k⟩)
theorem gtl {K1 : Value → World → Prop} {j : Nat} {b t : Bool} (hi : ops[i]? = some ⟨some d, op, ty, pos, af, some (j, b)⟩) (hg : gv n ops f j = some (.bool t)) (ht : t = b)
    (h : OW P n f op ty w K1) (k : ∀ v w', K1 v w' → wpP P ops S K rest (mkA n (upd f d v)) w') : wpP P ops S K (.step 2 i rest) (mkA n f) w :=
  ⟨_, hi, wanted_yes rfl hg ht, h _ _ _ rfl rfl fun v w' hv => by rw [put_mkA]; exact k v w' hv⟩
theorem gtly {v : Value} {w' : World} {j : Nat} {b t : Bool} (hi : ops[i]? = some ⟨some d, op, ty, pos, af, some (j, b)⟩) (hg : gv n ops f j = some (.bool t)) (ht : t = b)
    (h : Y P n f op ty w v w') (k : wpP P ops S K rest (mkA n (upd f d v)) w') : wpP P ops S K (.step 2 i rest) (mkA n f) w :=
  gtl (K1 := fun v1 w1 => v1 = v ∧ w1 = w') hi hg ht (ow_of_y h ⟨rfl, rfl⟩) (by rintro _ _ ⟨rfl, rfl⟩; exact k)
theorem gpno {j : Nat} {b t : Bool} (hi : ops[i]? = some ⟨some d, op, ty, pos, af, some (j, b)⟩) (hg : gv n ops f j = some (.bool t)) (ht : t = !b)
    (k : wpP P ops S K rest (mkA n (upd f d undef)) w) : wpP P ops S K (.step 0 i rest) (mkA n f) w :=
  ⟨_, undef, hi, .inr ⟨wanted_no rfl hg ht, rfl⟩, by simp only [put_mkA]; exact k⟩
theorem gpun {j : Nat} {b : Bool} (hi : ops[i]? = some ⟨some d, op, ty, pos, af, some (j, b)⟩) (hg : gv n ops f j = some undef)
    (k : wpP P ops S K rest (mkA n (upd f d undef)) w) : wpP P ops S K (.step 0 i rest) (mkA n f) w :=
  ⟨_, undef, hi, .inr ⟨wanted_un rfl hg, rfl⟩, by simp only [put_mkA]; exact k⟩
end

/-! ### Code -/
section
variable {P : Program} {n : Nat} {f : Nat → Value} {w : World} {Q : Exit → Act → World → Prop} {K : Act → World → Prop} {a : Act} {id : Nat}

theorem c_seq {x y : Code} (h : x.wp P (Exit.then (y.wp P Q) Q) a w) : (Code.seq x y).wp P Q a w := wp_seq h
theorem c_reg {l : List Oper} (h : wpList P l.toArray Q l a w) : (Code.region id l.toArray false).wp P Q a w := wp_region_lit h
theorem c_nil {ops : Array Oper} (h : Q .normal a w) : wpList P ops Q [] a w := h
theorem n_then (h : K a w) : Exit.then K Q .normal a w := h
theorem n_block (h : Q .normal a w) : Exit.inBlock id Q .normal a w := h
theorem x_then {k : Nat} (h : Q (.exit k) a w) : Exit.then K Q (.exit k) a w := h
theorem x_hit (h : Q .normal a w) : Exit.inBlock id Q (.exit id) a w := by simpa [Exit.inBlock] using h
theorem x_miss {k : Nat} (hk : Nat.beq k id = false) (h : Q (.exit k) a w) : Exit.inBlock id Q (.exit k) a w := by
  have : k ≠ id := fun e => by subst e; simp at hk
  simpa [Exit.inBlock, this] using h
theorem r_then (h : Q .ret a w) : Exit.then K Q .ret a w := h
theorem r_block (h : Q .ret a w) : Exit.inBlock id Q .ret a w := h
theorem c_cond {c : Operand} {x y : Code} {t : Bool} (hc : ev n f c = .bool t) (ht : t = true → x.wp P Q (mkA n f) w) (hf : t = false → y.wp P Q (mkA n f) w) :
    (Code.cond c x y).wp P Q (mkA n f) w := wp_cond_split (by rw [eval_mkA]; exact hc) ht hf
theorem c_if {c : Operand} {x y : Code} {p : Prop} [Decidable p] (hc : ev n f c = .bool (decide p)) (ht : p → x.wp P Q (mkA n f) w) (hf : ¬ p → y.wp P Q (mkA n f) w) :
    (Code.cond c x y).wp P Q (mkA n f) w := c_cond hc (fun h => ht (of_decide_eq_true h)) (fun h => hf (of_decide_eq_false h))
theorem c_t {c : Operand} {x y : Code} {t : Bool} (hc : ev n f c = .bool t) (ht : t = true) (h : x.wp P Q (mkA n f) w) :
    (Code.cond c x y).wp P Q (mkA n f) w := c_cond hc (fun _ => h) (fun e => by rw [ht] at e; cases e)
theorem c_f {c : Operand} {x y : Code} {t : Bool} (hc : ev n f c = .bool t) (ht : t = false) (h : y.wp P Q (mkA n f) w) :
    (Code.cond c x y).wp P Q (mkA n f) w := c_cond hc (fun e => by rw [ht] at e; cases e) (fun _ => h)

/-- A loop: its invariant over what G tells, which sinks by μ. -/
theorem c_loop {G : Type} {c : Code} (Inv : G → (Nat → Value) → World → Prop) (μ : G → Nat) (g0 : G) (h0 : Inv g0 f w)
    (round : ∀ g f w, Inv g f w → c.wp P (Exit.then (fun a' w' => ∃ g' f', a' = mkA n f' ∧ Inv g' f' w' ∧ μ g' < μ g) Q) (mkA n f) w) :
    (Code.loop c).wp P Q (mkA n f) w := by
  intro b k cs
  have key : ∀ m g f w, μ g = m → Inv g f w →
      ∃ e a' w', Q e a' w' ∧ Arrives P (lone (b.at (mkA n f) (.code c :: .inLoop c :: k)) cs w) b k cs e a' w' := by
    intro m
    induction m using Nat.strongRecOn with
    | _ m ih =>
      intro g f w hm hI
      obtain ⟨e, a₁, w₁, hq, harr⟩ := round g f w hI b (.inLoop c :: k) cs
      cases e with
      | normal =>
        obtain ⟨g', f', rfl, hI', hlt⟩ := hq
        obtain ⟨e₂, a₂, w₂, hq₂, harr₂⟩ := ih (μ g') (hm ▸ hlt) g' f' w₁ rfl hI'
        exact ⟨e₂, a₂, w₂, hq₂, .of_steps (Steps.trans harr (.one step_inLoop)) harr₂⟩
      | exit id => exact ⟨_, a₁, w₁, hq, .pass (x := .inLoop c) rfl (fun _ _ => .inl (by simp)) harr⟩
      | goto l => exact ⟨_, a₁, w₁, hq, .pass (x := .inLoop c) rfl (fun _ _ => .inl (by simp)) harr⟩
      | ret => exact ⟨_, a₁, w₁, hq, .pass (x := .inLoop c) rfl (fun _ _ => .inl (by simp)) harr⟩
      | panic ch => exact ⟨_, a₁, w₁, hq, .pass (x := .inLoop c) rfl (fun _ _ => .inl (by simp)) harr⟩
      | outgrown => exact ⟨_, a₁, w₁, hq, .pass (x := .inLoop c) rfl (fun _ _ => .inl (by simp)) harr⟩
  obtain ⟨e, a', w', hq, harr⟩ := key _ g0 f w rfl h0
  exact ⟨e, a', w', hq, .of_steps (.one step_loop) harr⟩
/-- The end of a round. -/
theorem lp_next {G : Type} {Inv : G → (Nat → Value) → World → Prop} {μ : G → Nat} {g : G} (g' : G) (h : Inv g' f w) (hlt : μ g' < μ g) :
    Exit.then (fun a' w' => ∃ g' f', a' = mkA n f' ∧ Inv g' f' w' ∧ μ g' < μ g) Q .normal (mkA n f) w := ⟨g', f, rfl, h, hlt⟩

/-- What is known where the ways through a piece of code meet. -/
def QJ (n : Nat) (J : (Nat → Value) → World → Prop) (Q : Exit → Act → World → Prop) : Exit → Act → World → Prop
  | .normal, a, w => ∃ f, a = mkA n f ∧ J f w
  | e, a, w => Q e a w
theorem c_cut {c : Code} (J : (Nat → Value) → World → Prop) (h : c.wp P (QJ n J Q) a w) (k : ∀ f w, J f w → Q .normal (mkA n f) w) : c.wp P Q a w :=
  wp_mono h fun e a w hq => by
    cases e with
    | normal => obtain ⟨f, rfl, hJ⟩ := hq; exact k f w hJ
    | _ => exact hq
theorem qj_n {J : (Nat → Value) → World → Prop} (h : J f w) : QJ n J Q .normal (mkA n f) w := ⟨f, rfl, h⟩
theorem qj_r {J : (Nat → Value) → World → Prop} (h : Q .ret a w) : QJ n J Q .ret a w := h
theorem qj_x {J : (Nat → Value) → World → Prop} {k : Nat} (h : Q (.exit k) a w) : QJ n J Q (.exit k) a w := h

/-! ### A function's end -/
variable {fn : Func} {R : Ending → World → Prop} {v v1 v2 : Value}
theorem e_ret0 (hr : fn.results = #[]) (hR : R (.returned (.tuple #[])) w) : bodyPost P fn R .ret (mkA n f) w :=
  ⟨rfl, _, results_none hr _ P w, hR⟩
theorem e_end0 (hr : fn.results = #[]) (hR : R (.returned (.tuple #[])) w) : bodyPost P fn R .normal (mkA n f) w :=
  ⟨rfl, _, results_none hr _ P w, hR⟩
theorem e_ret1 {t : Nat} (hr : fn.results = #[.tmp t]) (hv : ev n f (.tmp t) = v) (hR : R (.returned v) w) : bodyPost P fn R .ret (mkA n f) w :=
  ⟨rfl, v, by rw [results_tmp hr, getD_mkA]; exact congrArg (Result.ok · w) hv, hR⟩
theorem e_ret2 {t u : Nat} (hr : fn.results = #[.tmp t, .tmp u]) (hv : ev n f (.tmp t) = v1) (hu : ev n f (.tmp u) = v2) (hR : R (.returned (.tuple #[v1, v2])) w) :
    bodyPost P fn R .ret (mkA n f) w :=
  ⟨rfl, .tuple #[v1, v2], by rw [results_tmp2 hr, getD_mkA, getD_mkA]; exact congrArg (Result.ok · w) (by rw [← hv, ← hu]; rfl), hR⟩
end
end Go.Proofs.Ytdcmbcjkdhdohaa
