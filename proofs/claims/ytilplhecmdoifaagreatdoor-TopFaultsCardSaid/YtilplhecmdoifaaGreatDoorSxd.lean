/-
  Regions: whatever order their operations take.
-/
import Derived.Test.YtilplhecmdoifaaGreatDoorSxc
import Derived.AtR
import Derived.Orders
set_option linter.all false
noncomputable section
namespace SX
open Go
set_option linter.unusedVariables false
/-- an operation of a region is done, in whatever frame it stands -/
def Goes (P : Program) (o : Oper) (a : Act) (w : World) (v : Value) (w' : World) : Prop :=
  ∀ (b : Frame) (k : List Item) (cs : List Frame) (ops : Array Oper) (i : Nat) (rest : List Nat), ops[i]? = some o → Region.wanted o (yielded ops a.tmps) = true →
    Steps P (lone (b.atR a (.inRegion ops (i :: rest) :: k)) cs w) (lone (b.atR (a.put o.dst v) (.inRegion ops rest :: k)) cs w')
section
variable {P : Program} {o : Oper} {a : Act} {w w' : World} {v : Value}
theorem finish_at' {b : Frame} {ops : Array Oper} {i : Nat} {rest : List Nat} {k : List Item} (ho : ops[i]? = some o) (v : Value) :
    (b.atR a (.inRegion ops (i :: rest) :: k)).finish v = b.atR (a.put o.dst v) (.inRegion ops rest :: k) := by
  have h := Frame.finish_atR b a ops i rest k v
  rw [ho] at h; exact h
theorem Goes.of_run (hd : ∀ c, o.op ≠ .defer c) {nx : Next} (hr : (execOp a.eval o).run P w = .ok nx w') (hn : nx = .value v ∨ (nx = .skip ∧ v = undef)) : Goes P o a w v w' := by
  intro b k cs ops i rest ho hw
  have hg := stepGR_op (P := P) (b := b) (k := k) (cs := cs) (w := w) (rest := rest) ho hw
  rw [Oper.semAt_eq _ _ _ hd] at hg
  have hf := finish_at' (b := b) (a := a) (rest := rest) (k := k) ho v
  refine .one (step_lone_go ?_)
  rw [hg, ← hf]
  rcases hn with rfl | ⟨rfl, rfl⟩
  · simp [stepG.apply, hr]
  · simp [stepG.apply, hr]
/-- what a call begins with -/
inductive Start where | fn (f : FuncId) (args : Array Value) | round (l : Nat) (f : FuncId) (tmps : Array Value) (as body : Code)
def Start.next : Start → Next | .fn f as => .enter f as | .round l f t as b => .round l f t as b
def Start.frame (P : Program) : Start → Frame | .fn f as => Frame.enter P f as .normal | .round l f t a b => Frame.round l f t a b .normal
/-- the call of a value -/
def callSem (f : Value) (args : Array Value) : Sem Next := do let d ← Deferred.ofValue f args; invoke d.target d.args
/-- what is asked of a call of the abstract executor -/
def CallOK (P : Program) (ρ : Val) (call : Call) : Prop := ∀ {f : AV} {as : List AV} {h h' : H} {v : AV}, call f as h = .ok v h' → ∀ {L : Nat} {m : MM} {w : World} {fv : Value} {avs : Array Value},
  Rel P ρ m h w → L ≤ h.next.toNat → V ρ m f fv → Vs ρ m as avs.toList →
  ∃ s : Start, (callSem fv avs).run P w = .ok s.next w ∧ ∀ (c : Frame) (cs : List Frame), ∃ m' w' v', Step P ρ L m h w m' h' w' ∧ V ρ m' v v' ∧ Steps P (lone (s.frame P) (c :: cs) w) (lone (c.finish v') cs w')
theorem go_call {c : Go.Call} {f : Operand} (hc : o.op = .call c) (hf : c.callee = .value f) {s : Start} {w₁ : World} (hr : (callSem (a.eval f) (c.args.map a.eval)).run P w = .ok s.next w₁)
    {b : Frame} {k : List Item} {cs : List Frame} {ops : Array Oper} {i : Nat} {rest : List Nat} (ho : ops[i]? = some o) (hw : Region.wanted o (yielded ops a.tmps) = true)
    (hb : Steps P (lone (s.frame P) (b.atR a (.inRegion ops (i :: rest) :: k) :: cs) w₁) (lone ((b.atR a (.inRegion ops (i :: rest) :: k)).finish v) cs w')) :
    Steps P (lone (b.atR a (.inRegion ops (i :: rest) :: k)) cs w) (lone (b.atR (a.put o.dst v) (.inRegion ops rest :: k)) cs w') := by
  have hg := stepGR_op (P := P) (b := b) (k := k) (cs := cs) (w := w) (rest := rest) ho hw
  rw [Oper.semAt_eq _ _ _ (fun c' hc' => by rw [hc] at hc'; cases hc')] at hg
  have hx : execOp a.eval o = callSem (a.eval f) (c.args.map a.eval) := by
    unfold execOp; simp only [hc]; unfold resolve callSem; simp only [hf]
  rw [hx] at hg
  have hs : step P (lone (b.atR a (.inRegion ops (i :: rest) :: k)) cs w) = .next (lone (s.frame P) (b.atR a (.inRegion ops (i :: rest) :: k) :: cs) w₁) := by
    refine step_lone_go ?_
    rw [hg]
    cases s with
    | fn f as => simp only [stepG.apply, Sem.runT_eq, hr, Start.next]; simp [Frame.atR, Start.frame]
    | round l f t as bd => simp only [stepG.apply, Sem.runT_eq, hr, Start.next]; simp [Frame.atR, Start.frame]
  rw [finish_at' ho v] at hb
  exact .head hs hb
/-- an operation whose guard says no -/
theorem goes_skip {b : Frame} {k : List Item} {cs : List Frame} {ops : Array Oper} {i : Nat} {rest : List Nat} (ho : ops[i]? = some o) (hw : Region.wanted o (yielded ops a.tmps) = false) :
    Steps P (lone (b.atR a (.inRegion ops (i :: rest) :: k)) cs w) (lone (b.atR (a.put o.dst undef) (.inRegion ops rest :: k)) cs w) := by
  have h := stepR_op_skip (P := P) (b := b) (a := a) (k := k) (cs := cs) (w := w) (ops := ops) (i := i) (rest := rest) (by rw [ho]; exact hw)
  rw [ho] at h; exact .one h
end
end SX
namespace SX
open Go
set_option linter.unusedVariables false
/-! ### plans of a region -/
def TmpsFit (ops : List Oper) (A : Nat → Nat → Prop) (i : Nat) (op : Op) : Prop :=
  ∀ t, Operand.tmp t ∈ op.operands → ∀ j oj, ops[j]? = some oj → oj.dst = some t → A i j ∨ A j i ∨ j = i
def AgainFit (ops : List Oper) (A : Nat → Nat → Prop) (dn : Nat → Prop) (i : Nat) (op : Op) : Prop :=
  ∀ t, Operand.tmp t ∈ op.operands → ∀ j oj, ops[j]? = some oj → oj.dst = some t → dn j → A i j
def GuardFit (A : Nat → Nat → Prop) (dn : Nat → Prop) (i : Nat) (g : Option (Nat × Bool)) : Prop := ∀ j w, g = some (j, w) → dn j → A i j
def ReadAt (P : Program) (ops : List Oper) (j : Nat) : Prop := ∃ oj, ops[j]? = some oj ∧ cls P oj.op = .read
/-- a plan keeps to an order (A i j: j stands ahead of i); dn: what is done; ws: of these what changes the world; st: what has to be done once more -/
def PlanOK (P : Program) (ops : List Oper) (A : Nat → Nat → Prop) : List (Nat × Bool) → (Nat → Prop) → (Nat → Prop) → (Nat → Prop) → Prop
  | [], dn, _, st => (∀ i, ¬ st i) ∧ ∀ i, i < ops.length → dn i
  | (i, true) :: l, dn, ws, st => ∃ o, ops[i]? = some o ∧ dn i ∧ cls P o.op = .read ∧ AgainFit ops A dn i o.op ∧ PlanOK P ops A l dn ws (fun j => st j ∧ j ≠ i)
  | (i, false) :: l, dn, ws, st => ∃ o, ops[i]? = some o ∧ ¬ dn i ∧ (∀ j, A i j → dn j) ∧ (∀ j, ws j → A i j) ∧ TmpsFit ops A i o.op ∧ GuardFit A dn i o.guard ∧
      (cls P o.op = .world → ∀ j, ¬ st j) ∧
      PlanOK P ops A l (fun j => dn j ∨ j = i) (fun j => ws j ∨ (j = i ∧ cls P o.op = .world)) (fun j => (cls P o.op = .world ∧ dn j ∧ ReadAt P ops j ∧ ¬ A i j) ∨ (cls P o.op ≠ .world ∧ st j))
section
variable {P : Program} {ops : List Oper} {A : Nat → Nat → Prop}
theorem PlanOK.weaken : ∀ {l : List (Nat × Bool)} {dn ws st st' : Nat → Prop}, (∀ j, st' j → st j) → PlanOK P ops A l dn ws st → PlanOK P ops A l dn ws st'
  | [], dn, ws, st, st', hs, h => ⟨fun i hi => h.1 i (hs i hi), h.2⟩
  | (i, true) :: l, dn, ws, st, st', hs, h => by
    obtain ⟨o, h1, h2, h3, h4, h5⟩ := h
    exact ⟨o, h1, h2, h3, h4, h5.weaken fun j hj => ⟨hs j hj.1, hj.2⟩⟩
  | (i, false) :: l, dn, ws, st, st', hs, h => by
    obtain ⟨o, h1, h2, h3, h4, h5, h6, h7, h8⟩ := h
    exact ⟨o, h1, h2, h3, h4, h5, h6, fun hw j hj => h7 hw j (hs j hj), h8.weaken fun j hj => hj.imp id fun hj => ⟨hj.1, hs j hj.2⟩⟩
/-- what is planned later stands behind what changes the world by now -/
theorem PlanOK.later : ∀ {l : List (Nat × Bool)} {dn ws st : Nat → Prop}, PlanOK P ops A l dn ws st → ∀ i, i < ops.length → ¬ dn i → ∀ j, ws j → A i j
  | [], dn, ws, st, h, i, hi, hd, j, hj => absurd (h.2 i hi) hd
  | (k, true) :: l, dn, ws, st, h, i, hi, hd, j, hj => by
    obtain ⟨o, h1, h2, h3, h4, h5⟩ := h
    exact h5.later i hi hd j hj
  | (k, false) :: l, dn, ws, st, h, i, hi, hd, j, hj => by
    obtain ⟨o, h1, h2, h3, h4, h5, h6, h7, h8⟩ := h
    by_cases hik : i = k
    · subst hik; exact h4 j hj
    · exact h8.later i hi (fun hh => hh.elim hd hik) j (.inl hj)

/-! bits -/
theorem within_iff {a b : Nat} (h : within a b = true) (j : Nat) (hj : a.testBit j = true) : b.testBit j = true := by
  have := Nat.eq_of_beq_eq_true h
  rw [← this, Nat.testBit_or, hj, Bool.true_or]
theorem bit_or (a i j : Nat) : (a ||| 2 ^ i).testBit j = true ↔ (a.testBit j = true ∨ j = i) := by
  rw [Nat.testBit_or, Nat.testBit_two_pow, Bool.or_eq_true, decide_eq_true_iff]
  exact ⟨fun h => h.imp id Eq.symm, fun h => h.imp id Eq.symm⟩
/-! no temporary is made twice -/
structure DstsOK (ops : List Oper) (nt : Nat) : Prop where
  lt : ∀ {j : Nat} {o : Oper} {t : Nat}, ops[j]? = some o → o.dst = some t → t < nt
  one : ∀ {i j : Nat} {oi oj : Oper} {t : Nat}, ops[i]? = some oi → ops[j]? = some oj → oi.dst = some t → oj.dst = some t → i = j
theorem dsts_aux {nt : Nat} : ∀ {l : List Oper} {seen : Nat}, dstsOk nt l seen = true → DstsOK l nt ∧ ∀ (j : Nat) (o : Oper) (t : Nat), l[j]? = some o → o.dst = some t → seen.testBit t = false := by
  intro l
  induction l with
  | nil => intro seen _; exact ⟨⟨fun h => by simp at h, fun h => by simp at h⟩, fun j o t h => by simp at h⟩
  | cons x l ih =>
    intro seen h
    unfold dstsOk at h
    cases hx : x.dst with
    | none =>
      rw [hx] at h
      obtain ⟨⟨h1, h2⟩, h3⟩ := ih h
      refine ⟨⟨fun {j o t} hj ht => ?_, fun {i j oi oj t} hi hj hti htj => ?_⟩, fun j o t hj ht => ?_⟩
      · cases j with
        | zero => simp at hj; subst hj; rw [hx] at ht; cases ht
        | succ j => exact h1 (by simpa using hj) ht
      · cases i with
        | zero => simp at hi; subst hi; rw [hx] at hti; cases hti
        | succ i => cases j with
          | zero => simp at hj; subst hj; rw [hx] at htj; cases htj
          | succ j => exact congrArg Nat.succ (h2 (by simpa using hi) (by simpa using hj) hti htj)
      · cases j with
        | zero => simp at hj; subst hj; rw [hx] at ht; cases ht
        | succ j => exact h3 j o t (by simpa using hj) ht
    | some d =>
      rw [hx] at h
      simp only [Bool.and_eq_true, Bool.not_eq_true'] at h
      obtain ⟨⟨hlt, hns⟩, h⟩ := h
      obtain ⟨⟨h1, h2⟩, h3⟩ := ih h
      have hlt' : d < nt := Nat.le_of_ble_eq_true hlt
      have hne : ∀ (j : Nat) (o : Oper), l[j]? = some o → o.dst ≠ some d := fun j o hj hd => by
        have := h3 j o d hj hd
        have h4 := (bit_or seen d d).2 (.inr rfl)
        rw [this] at h4; cases h4
      refine ⟨⟨fun {j o t} hj ht => ?_, fun {i j oi oj t} hi hj hti htj => ?_⟩, fun j o t hj ht => ?_⟩
      · cases j with
        | zero => simp at hj; subst hj; rw [hx] at ht; cases ht; exact hlt'
        | succ j => exact h1 (by simpa using hj) ht
      · cases i with
        | zero =>
          simp at hi; subst hi; rw [hx] at hti; cases hti
          cases j with
          | zero => rfl
          | succ j => exact absurd htj (hne j oj (by simpa using hj))
        | succ i => cases j with
          | zero => simp at hj; subst hj; rw [hx] at htj; cases htj; exact absurd hti (hne i oi (by simpa using hi))
          | succ j => exact congrArg Nat.succ (h2 (by simpa using hi) (by simpa using hj) hti htj)
      · cases j with
        | zero => simp at hj; subst hj; rw [hx] at ht; cases ht; exact hns
        | succ j =>
          have := h3 j o t (by simpa using hj) ht
          cases hs : seen.testBit t with
          | false => rfl
          | true => have h4 := (bit_or seen d t).2 (.inl hs); rw [this] at h4; cases h4
theorem dsts_ok {nt : Nat} (h : dstsOk nt ops 0 = true) : DstsOK ops nt := (dsts_aux h).1
theorem wrOf_spec (t : Nat) : ∀ (l : List Oper) (i : Nat), (∀ j, wrOf t l i = some j → ∃ k o, j = i + k ∧ l[k]? = some o ∧ o.dst = some t) ∧ (wrOf t l i = none → ∀ (k : Nat) (o : Oper), l[k]? = some o → o.dst ≠ some t) := by
  intro l
  induction l with
  | nil => intro i; exact ⟨fun j h => (nomatch h), fun _ k o h => by simp at h⟩
  | cons x l ih =>
    intro i
    obtain ⟨h1, h2⟩ := ih (i + 1)
    have step1 : ∀ j, wrOf t l (i + 1) = some j → ∃ k o, j = i + k ∧ (x :: l)[k]? = some o ∧ o.dst = some t := fun j h => by
      obtain ⟨k, o, hk, ho, hd⟩ := h1 j h
      exact ⟨k + 1, o, by omega, by simpa using ho, hd⟩
    have step2 : x.dst ≠ some t → wrOf t l (i + 1) = none → ∀ (k : Nat) (o : Oper), (x :: l)[k]? = some o → o.dst ≠ some t := fun hx h k o hk => by
      cases k with
      | zero => simp at hk; subst hk; exact hx
      | succ k => exact h2 h k o (by simpa using hk)
    unfold wrOf
    cases hx : x.dst with
    | none => exact ⟨step1, step2 (by rw [hx]; simp)⟩
    | some d =>
      simp only []
      cases hb : Nat.beq d t with
      | true =>
        have hdt : d = t := Nat.eq_of_beq_eq_true hb
        exact ⟨fun j h => by cases h; exact ⟨0, x, rfl, rfl, hx.trans (congrArg some hdt)⟩, fun h => by cases h⟩
      | false => exact ⟨step1, step2 (by rw [hx]; intro h; cases h; exact Nat.ne_of_beq_eq_false hb rfl)⟩
theorem wrOf_one {nt : Nat} (hd : DstsOK ops nt) {t j : Nat} {oj : Oper} (hj : ops[j]? = some oj) (ht : oj.dst = some t) : wrOf t ops 0 = some j := by
  obtain ⟨h1, h2⟩ := wrOf_spec t ops 0
  cases hw : wrOf t ops 0 with
  | none => exact absurd ht (h2 hw j oj hj)
  | some j' =>
    obtain ⟨k, o, hk, ho, hd'⟩ := h1 j' hw
    rw [Nat.zero_add] at hk; subst hk
    rw [hd.one ho hj hd' ht]
theorem mem_tmpsOf {op : Op} {t : Nat} (h : Operand.tmp t ∈ op.operands) : t ∈ tmpsOf op := by
  unfold tmpsOf
  exact List.mem_flatMap.2 ⟨.tmp t, by simpa using h, by simp [opdTmp]⟩
theorem tmpsFit_of {nt : Nat} (hd : DstsOK ops nt) {an : List Nat} {i : Nat} {op : Op} (h : tmpsOk ops an i op = true) : TmpsFit ops (fun i j => (an.getD i 0).testBit j = true) i op := by
  intro t ht j oj hj hdj
  have := List.all_eq_true.1 h t (mem_tmpsOf ht)
  rw [wrOf_one hd hj hdj] at this
  simp only [Bool.or_eq_true] at this
  rcases this with (h | h) | h
  · exact .inl h
  · exact .inr (.inl h)
  · exact .inr (.inr (Nat.eq_of_beq_eq_true h))
theorem againFit_of {nt : Nat} (hd : DstsOK ops nt) {an : List Nat} {dn i : Nat} {op : Op} (h : againOk ops an dn i op = true) : AgainFit ops (fun i j => (an.getD i 0).testBit j = true) (fun j => dn.testBit j = true) i op := by
  intro t ht j oj hj hdj hdn
  have := List.all_eq_true.1 h t (mem_tmpsOf ht)
  rw [wrOf_one hd hj hdj] at this
  simp only [Bool.or_eq_true, Bool.not_eq_true'] at this
  rcases this with h | h
  · exact h
  · rw [hdn] at h; cases h
theorem guardFit_of {dn : Nat → Prop} {an : List Nat} {i : Nat} {g : Option (Nat × Bool)} (h : guardOk an i g = true) : GuardFit (fun i j => (an.getD i 0).testBit j = true) dn i g := by
  intro j w hg _; subst hg; exact h
theorem isR_inv {c : Cls} (h : c.isR = true) : c = .read := by cases c <;> first | rfl | cases h
theorem planOK_of {nt : Nat} (hd : DstsOK ops nt) {an : List Nat} : ∀ {l : List (Nat × Bool)} {dn ws : Nat} {rs st : List Nat}, checkPlan P ops an ops.length l dn ws rs st = true →
    (∀ j, dn.testBit j = true → ReadAt P ops j → j ∈ rs) →
    PlanOK P ops (fun i j => (an.getD i 0).testBit j = true) l (fun j => dn.testBit j = true) (fun j => ws.testBit j = true) (fun j => j ∈ st) := by
  intro l
  induction l with
  | nil =>
    intro dn ws rs st h hrs
    unfold checkPlan at h
    simp only [Bool.and_eq_true] at h
    refine ⟨fun i hi => ?_, fun i hi => ?_⟩
    · have := List.isEmpty_iff.1 h.1; subst this; cases hi
    · show dn.testBit i = true
      rw [Nat.eq_of_beq_eq_true h.2, Nat.testBit_two_pow_sub_one]; simpa using hi
  | cons x l ih =>
    obtain ⟨i, again⟩ := x
    intro dn ws rs st h hrs
    unfold checkPlan at h
    cases ho : ops[i]? with
    | none => rw [ho] at h; cases h
    | some o =>
      rw [ho] at h
      cases again with
      | true =>
        simp only [Bool.and_eq_true] at h
        obtain ⟨⟨⟨h1, h2⟩, h3⟩, h4⟩ := h
        refine ⟨o, ho, h1, isR_inv h2, againFit_of hd h3, (ih h4 hrs).weaken fun j hj => ?_⟩
        show j ∈ st.filter fun j => !Nat.beq j i
        rw [List.mem_filter]
        refine ⟨hj.1, ?_⟩
        cases hb : Nat.beq j i with
        | true => exact absurd (Nat.eq_of_beq_eq_true hb) hj.2
        | false => rfl
      | false =>
        simp only [Bool.and_eq_true, Bool.not_eq_true'] at h
        obtain ⟨⟨⟨⟨⟨h1, h2⟩, h3⟩, h4⟩, h5⟩, h6⟩ := h
        refine ⟨o, ho, fun hh => (by have hh' : dn.testBit i = true := hh; rw [h1] at hh'; cases hh'), fun j hj => within_iff h2 j hj, fun j hj => within_iff h3 j hj, tmpsFit_of hd h4, guardFit_of h5, ?_, ?_⟩
        · intro hw j hj
          rw [hw] at h6
          simp only [Bool.and_eq_true] at h6
          have := List.isEmpty_iff.1 h6.1; subst this; cases hj
        · have hdn : (fun j => (dn ||| 2 ^ i).testBit j = true) = fun j => dn.testBit j = true ∨ j = i := funext fun j => propext (bit_or dn i j)
          have hws : (fun j => (ws ||| 2 ^ i).testBit j = true) = fun j => ws.testBit j = true ∨ j = i := funext fun j => propext (bit_or ws i j)
          cases hc : cls P o.op with
          | world =>
            rw [hc] at h6
            simp only [Bool.and_eq_true] at h6
            have := ih h6.2 (fun j hj hr => by
              rcases (bit_or dn i j).1 hj with hj | rfl
              · exact hrs j hj hr
              · obtain ⟨oj, h7, h8⟩ := hr; rw [ho] at h7; cases h7; rw [hc] at h8; cases h8)
            rw [hdn, hws] at this
            have e2 : (fun j => ws.testBit j = true ∨ (j = i ∧ Cls.world = Cls.world)) = fun j => ws.testBit j = true ∨ j = i := by simp
            rw [e2]
            refine this.weaken fun j hj => ?_
            rcases hj with ⟨_, h7, h8, h9⟩ | ⟨h7, _⟩
            · rw [List.mem_filter]; exact ⟨hrs j h7 h8, by simpa using h9⟩
            · exact absurd rfl h7
          | read =>
            rw [hc] at h6
            have := ih h6 (fun j hj hr => by
              rcases (bit_or dn i j).1 hj with hj | rfl
              · exact List.mem_cons_of_mem _ (hrs j hj hr)
              · exact List.mem_cons_self ..)
            rw [hdn] at this
            have e2 : (fun j => ws.testBit j = true ∨ (j = i ∧ Cls.read = Cls.world)) = fun j => ws.testBit j = true := by simp
            rw [e2]
            exact this.weaken fun j hj => hj.elim (fun h => by cases h.1) fun h => h.2
          | pure =>
            rw [hc] at h6
            have := ih h6 (fun j hj hr => by
              rcases (bit_or dn i j).1 hj with hj | rfl
              · exact hrs j hj hr
              · obtain ⟨oj, h7, h8⟩ := hr; rw [ho] at h7; cases h7; rw [hc] at h8; cases h8)
            rw [hdn] at this
            have e2 : (fun j => ws.testBit j = true ∨ (j = i ∧ Cls.pure = Cls.world)) = fun j => ws.testBit j = true := by simp
            rw [e2]
            exact this.weaken fun j hj => hj.elim (fun h => by cases h.1) fun h => h.2
          | alloc =>
            rw [hc] at h6
            have := ih h6 (fun j hj hr => by
              rcases (bit_or dn i j).1 hj with hj | rfl
              · exact hrs j hj hr
              · obtain ⟨oj, h7, h8⟩ := hr; rw [ho] at h7; cases h7; rw [hc] at h8; cases h8)
            rw [hdn] at this
            have e2 : (fun j => ws.testBit j = true ∨ (j = i ∧ Cls.alloc = Cls.world)) = fun j => ws.testBit j = true := by simp
            rw [e2]
            exact this.weaken fun j hj => hj.elim (fun h => by cases h.1) fun h => h.2
/-- a region without a draw -/
theorem planOK_range : ∀ (n k : Nat), k + n = ops.length → PlanOK P ops (fun i j => j < i) ((List.range' k n).map fun i => (i, false)) (fun j => j < k) (fun j => j < k ∧ ∃ oj, ops[j]? = some oj ∧ cls P oj.op = .world) (fun _ => False) := by
  intro n
  induction n with
  | zero => intro k hk; exact ⟨fun _ h => h, fun i hi => by show i < k; omega⟩
  | succ n ih =>
    intro k hk
    have ho : ops[k]? = some ops[k] := List.getElem?_eq_getElem (by omega)
    refine ⟨ops[k], ho, by simp, fun j hj => hj, fun j hj => hj.1, fun t _ j oj _ _ => ?_, fun j w hg hj => ?_, fun _ j h => h, ?_⟩
    · rcases Nat.lt_trichotomy j k with h | h | h
      · exact .inl h
      · exact .inr (.inr h)
      · exact .inr (.inl h)
    · exact hj
    · have h1 : (fun j => j < k ∨ j = k) = fun j => j < k + 1 := funext fun j => propext ⟨fun h => by omega, fun h => by omega⟩
      have h2 : (fun j => (j < k ∧ ∃ oj, ops[j]? = some oj ∧ cls P oj.op = .world) ∨ (j = k ∧ cls P (ops[k]).op = .world)) = fun j => j < k + 1 ∧ ∃ oj, ops[j]? = some oj ∧ cls P oj.op = .world := by
        funext j; apply propext
        constructor
        · rintro (⟨h1, h2⟩ | ⟨rfl, h2⟩)
          · exact ⟨by omega, h2⟩
          · exact ⟨by omega, _, ho, h2⟩
        · rintro ⟨h1, h2⟩
          by_cases hjk : j = k
          · subst hjk; obtain ⟨oj, h3, h4⟩ := h2; rw [ho] at h3; cases h3; exact .inr ⟨rfl, h4⟩
          · exact .inl ⟨by omega, h2⟩
      rw [h1, h2]
      refine (ih (k + 1) (by omega)).weaken fun j hj => ?_
      rcases hj with ⟨_, h3, _, h4⟩ | ⟨_, h3⟩
      · exact h4 h3
      · exact h3
end
end SX
namespace SX
open Go
set_option linter.unusedVariables false
/-! ### what a region comes to -/
section
variable (P : Program) (ρ : Val) (live : Nat → Bool) (env : TV) (ops : List Oper) (A : Nat → Nat → Prop) (val : Nat → AV)
/-- what an operand is at an operation -/
def ExpR (i : Nat) : Operand → AV → Prop
  | .tmp t, u => (∃ j oj, A i j ∧ ops[j]? = some oj ∧ oj.dst = some t ∧ u = val j) ∨ ((∀ j oj, A i j → ops[j]? = some oj → oj.dst ≠ some t) ∧ live t = true ∧ u = TV.get (Ps.ofNat t) env)
  | .const v, u => avOf v = some u
  | .func f, u => u = .func f [] []
  | .global _, _ => False
def OpsR (m : MM) (a : Act) (i : Nat) (op : Op) : Prop := ∀ y ∈ op.operands, ∀ u, ExpR live env ops A val i y u → V ρ m u (a.eval y)
def Skips (o : Oper) : Prop := ∃ j w, o.guard = some (j, w) ∧ (∃ oj t, ops[j]? = some oj ∧ oj.dst = some t) ∧ ((∃ vs, val j = .tup vs) ∨ ∃ sb : SB, val j = .bool sb ∧ sb.den ρ ≠ w)
def Wants (o : Oper) : Prop := o.guard = none ∨ ∃ j w, o.guard = some (j, w) ∧ (∃ oj t, ops[j]? = some oj ∧ oj.dst = some t) ∧ ∃ sb : SB, val j = .bool sb ∧ sb.den ρ = w
/-- as it was, but for new blocks -/
def Grown (h h' : H) : Prop := ∀ p, TB.get p h.t ≠ .dead → TB.get p h'.t = TB.get p h.t
def ReadFact (i : Nat) (o : Oper) (h : H) : Prop := ∀ h', Grown h h' → ∀ m a w, Rel P ρ m h' w → OpsR ρ live env ops A val m a i o.op → ReadR P ρ m w o.op o.type a (val i)
/-- what an operation comes to that changes the world -/
def WorldG (L : Nat) (m : MM) (h : H) (w : World) (o : Oper) (a : Act) (v : AV) (h' : H) : Prop :=
  ∀ (b : Frame) (k : List Item) (cs : List Frame) (ops : Array Oper) (i : Nat) (rest : List Nat), ops[i]? = some o → Region.wanted o (yielded ops a.tmps) = true →
    ∃ m' w' v', Step P ρ L m h w m' h' w' ∧ V ρ m' v v' ∧ Steps P (lone (b.atR a (.inRegion ops (i :: rest) :: k)) cs w) (lone (b.atR (a.put o.dst v') (.inRegion ops rest :: k)) cs w')
def Fact (i : Nat) (o : Oper) (h h' : H) : Prop := (∀ c, o.op ≠ .defer c) ∧ (∀ j w, o.guard = some (j, w) → A i j) ∧ (
  (Skips ρ ops val o ∧ val i = undefV ∧ h' = h) ∨ (Wants ρ ops val o ∧ match cls P o.op with
    | .pure => h' = h ∧ ∀ m a, OpsR ρ live env ops A val m a i o.op → PureR P ρ m o.op o.type a (val i)
    | .read => h' = h ∧ ReadFact P ρ live env ops A val i o h
    | .alloc => ∃ B, h' = h.alloc B ∧ ∀ m a, OpsR ρ live env ops A val m a i o.op → AllocR P ρ m o.op o.type a h.next (val i) B
    | .world => ∀ m a w L, Rel P ρ m h w → L ≤ h.next.toNat → OpsR ρ live env ops A val m a i o.op → WorldG P ρ L m h w o a (val i) h'))
def SemRun : List (Nat × Bool) → H → H → Prop
  | [], h, h' => h' = h
  | (i, true) :: l, h, h' => (∀ o, ops[i]? = some o → Wants ρ ops val o → ReadFact P ρ live env ops A val i o h) ∧ SemRun l h h'
  | (i, false) :: l, h, h' => ∃ o h1, ops[i]? = some o ∧ Fact P ρ live env ops A val i o h h1 ∧ SemRun l h1 h'
end
theorem Grown.refl (h : H) : Grown h h := fun _ _ => rfl
theorem Grown.trans {a b c : H} (h : Grown a b) (h' : Grown b c) : Grown a c := fun p hp => (h' p (by rw [h p hp]; exact hp)).trans (h p hp)
end SX
namespace SX
open Go
set_option linter.unusedVariables false
theorem put_get (a : Act) (dst : Option Tmp) (v : Value) (t : Nat) : (a.put dst v).tmps.getD t undef = if dst = some t ∧ t < a.tmps.size then v else a.tmps.getD t undef := by
  cases dst with
  | none => simp [Act.put]
  | some d =>
    by_cases hd : d = t
    · subst hd
      by_cases hs : d < a.tmps.size
      · simp [Act.put, hs]
      · simp [Act.put, hs]
    · have : ¬ (some d = some t ∧ t < a.tmps.size) := fun h => hd (Option.some.inj h.1)
      rw [if_neg this]
      simp [Act.put, Array.getElem?_setIfInBounds_ne hd]
theorem put_size (a : Act) (dst : Option Tmp) (v : Value) : (a.put dst v).tmps.size = a.tmps.size := by cases dst <;> simp [Act.put]
theorem put_defers (a : Act) (dst : Option Tmp) (v : Value) : (a.put dst v).defers = a.defers := by cases dst <;> simp [Act.put]
section
variable {P : Program} {ρ : Val} {live : Nat → Bool} {env : TV} {opsA : Array Oper} {A : Nat → Nat → Prop} {val : Nat → AV} {nt L : Nat} {m0 : MM} {h0 : H} {w0 : World} {a0 : Act}
def Pend (P : Program) (ρ : Val) (live : Nat → Bool) (env : TV) (ops : List Oper) (A : Nat → Nat → Prop) (val : Nat → AV) (L : Nat) (i : Nat) (o : Oper) (m : MM) (h : H) (st : Prop) (p : Ps) : Prop :=
  (∀ c, o.op ≠ .defer c) ∧ (∀ j w, o.guard = some (j, w) → A i j) ∧ ((Skips ρ ops val o ∧ val i = undefV) ∨ (Wants ρ ops val o ∧ match cls P o.op with
    | .pure => ∀ m a, OpsR ρ live env ops A val m a i o.op → PureR P ρ m o.op o.type a (val i)
    | .read => st ∨ ReadFact P ρ live env ops A val i o h
    | .alloc => m p = none ∧ L ≤ p.toNat ∧ p.toNat < h.next.toNat ∧ ∀ m a, OpsR ρ live env ops A val m a i o.op → AllocR P ρ m o.op o.type a p (val i) (TB.get p h.t)
    | .world => False))
/-- an alloc that is still to come -/
def Owed (P : Program) (ρ : Val) (ops : List Oper) (val : Nat → AV) (dn E : Nat → Prop) (i : Nat) : Prop := dn i ∧ ¬ E i ∧ ∃ o, ops[i]? = some o ∧ cls P o.op = .alloc ∧ Wants ρ ops val o
structure RInv (P : Program) (ρ : Val) (live : Nat → Bool) (env : TV) (ops : List Oper) (A : Nat → Nat → Prop) (val : Nat → AV) (nt L : Nat) (m0 : MM) (h0 : H) (w0 : World) (a0 : Act)
    (pl : List (Nat × Bool)) (h h' : H) (dn ws st E : Nat → Prop) (bl : Nat → Ps) (m : MM) (a : Act) (w : World) : Prop where
  ok : PlanOK P ops A pl dn ws st
  sem : SemRun P ρ live env ops A val pl h h'
  step : Step P ρ L m0 h0 w0 m h w
  lev : L ≤ h.next.toNat
  sub : ∀ i, E i → dn i
  wsE : ∀ i, ws i → E i
  dnw : ∀ i o, dn i → ops[i]? = some o → cls P o.op = .world → ws i
  cl : ∀ i j, E i → A i j → E j
  fit : ∀ i o, dn i → ops[i]? = some o → TmpsFit ops A i o.op
  vals : ∀ i o t, E i → ops[i]? = some o → o.dst = some t → V ρ m (val i) (a.tmps.getD t undef)
  kept : ∀ t, (∀ i o, E i → ops[i]? = some o → o.dst ≠ some t) → a.tmps.getD t undef = a0.tmps.getD t undef
  size : a.tmps.size = a0.tmps.size
  defers : a.defers = a0.defers
  pend : ∀ i o, dn i → ¬ E i → ops[i]? = some o → Pend P ρ live env ops A val L i o m h (st i) (bl i)
  inj : ∀ i j, Owed P ρ ops val dn E i → Owed P ρ ops val dn E j → bl i = bl j → i = j
def Settled (P : Program) (ops : List Oper) (pl : List (Nat × Bool)) (st : Nat → Prop) : Prop := (∀ j, ¬ st j) ∧ (pl = [] ∨ ∃ u l o, pl = (u, false) :: l ∧ ops[u]? = some o ∧ cls P o.op = .world)
theorem Wants.not_skips {ops : List Oper} {o : Oper} (h : Wants ρ ops val o) : ¬ Skips ρ ops val o := by
  rintro ⟨j, w, hg, _, hs⟩
  rcases h with h | ⟨j', w', hg', _, sb, hv, hd⟩
  · rw [hg] at h; cases h
  · rw [hg] at hg'; cases hg'
    rcases hs with ⟨vs, hv'⟩ | ⟨sb', hv', hd'⟩
    · rw [hv] at hv'; cases hv'
    · rw [hv] at hv'; cases hv'; exact hd' hd
theorem RInv.settle {E : Nat → Prop} {m : MM} {a : Act} {w : World} {h' : H} : ∀ {pl : List (Nat × Bool)} {h : H} {dn ws st : Nat → Prop} {bl : Nat → Ps},
    RInv P ρ live env opsA.toList A val nt L m0 h0 w0 a0 pl h h' dn ws st E bl m a w →
    ∃ pl₁ h₁ dn₁ ws₁ st₁ bl₁, RInv P ρ live env opsA.toList A val nt L m0 h0 w0 a0 pl₁ h₁ h' dn₁ ws₁ st₁ E bl₁ m a w ∧ Settled P opsA.toList pl₁ st₁ := by
  intro pl
  induction pl with
  | nil => intro h dn ws st bl I; exact ⟨[], h, dn, ws, st, bl, I, I.ok.1, .inl rfl⟩
  | cons x l ih =>
    obtain ⟨i, again⟩ := x
    intro h dn ws st bl I
    cases again with
    | true =>
      obtain ⟨o, ho, hdi, hc, hag, hok⟩ := I.ok
      obtain ⟨hsem, hs'⟩ := I.sem
      refine ih (h := h) (dn := dn) (ws := ws) (st := fun j => st j ∧ j ≠ i) (bl := bl) ⟨hok, hs', I.step, I.lev, I.sub, I.wsE, I.dnw, I.cl, I.fit, I.vals, I.kept, I.size, I.defers, ?_, I.inj⟩
      intro j oj hj hE hoj
      obtain ⟨h1, h2, h3⟩ := I.pend j oj hj hE hoj
      refine ⟨h1, h2, h3.imp id fun ⟨hw, h4⟩ => ⟨hw, ?_⟩⟩
      cases hcj : cls P oj.op with
      | pure => rw [hcj] at h4; exact h4
      | read =>
        rw [hcj] at h4
        by_cases hji : j = i
        · subst hji; exact .inr (hsem oj hoj hw)
        · exact h4.imp (fun h => ⟨h, hji⟩) id
      | alloc => rw [hcj] at h4; exact h4
      | world => rw [hcj] at h4; exact h4
    | false =>
      obtain ⟨o, ho, hnd, hA, hwA, hfit, hg, hst, hok⟩ := I.ok
      by_cases hc : cls P o.op = .world
      · exact ⟨_, h, dn, ws, st, bl, I, hst hc, .inr ⟨i, l, o, rfl, ho, hc⟩⟩
      · obtain ⟨o', h1, ho', hf, hs'⟩ := I.sem
        rw [ho] at ho'; cases ho'
        obtain ⟨hd, hgd, hf⟩ := hf
        have hnE : ¬ E i := fun he => hnd (I.sub i he)
        -- the heap
        have hh : (h1 = h ∨ ∃ B, h1 = h.alloc B) := by
          rcases hf with ⟨_, _, h2⟩ | ⟨_, hf⟩
          · exact .inl h2
          · cases hcc : cls P o.op with
            | pure => rw [hcc] at hf; exact .inl hf.1
            | read => rw [hcc] at hf; exact .inl hf.1
            | alloc => rw [hcc] at hf; obtain ⟨B, h2, _⟩ := hf; exact .inr ⟨B, h2⟩
            | world => exact absurd hcc hc
        have hstep : Step P ρ L m0 h0 w0 m h1 w := by
          rcases hh with rfl | ⟨B, rfl⟩
          · exact I.step
          · exact I.step.trans (Step.ahead I.step.rel B I.lev)
        have hgr : Grown h h1 := by
          rcases hh with rfl | ⟨B, rfl⟩
          · exact Grown.refl _
          · intro p hp
            have hne : p ≠ h.next := fun e => hp (by rw [e]; exact (I.step.rel.fresh _ (Nat.le_refl _)).2)
            rw [H.alloc_get, if_neg hne]
        have hnx : h.next.toNat ≤ h1.next.toNat := by
          rcases hh with rfl | ⟨B, rfl⟩
          · exact Nat.le_refl _
          · rw [H.alloc_next]; omega
        have hold : ∀ p, p.toNat < h.next.toNat → TB.get p h1.t = TB.get p h.t := by
          intro p hp
          rcases hh with rfl | ⟨B, rfl⟩
          · rfl
          · have hne : p ≠ h.next := fun e => by rw [e] at hp; omega
            rw [H.alloc_get, if_neg hne]
        have hb2 : ∀ j, j ≠ i → (if j = i then h.next else bl j) = bl j := fun j hj => if_neg hj
        refine ih (h := h1) (dn := _) (ws := _) (st := _) (bl := fun j => if j = i then h.next else bl j)
          ⟨hok, hs', hstep, Nat.le_trans I.lev hnx, fun j hj => .inl (I.sub j hj), ?_, ?_, I.cl, ?_, I.vals, I.kept, I.size, I.defers, ?_, ?_⟩
        · rintro j (hj | ⟨_, hj⟩)
          · exact I.wsE j hj
          · exact absurd hj hc
        · rintro j oj (hj | rfl) hoj hcj
          · exact .inl (I.dnw j oj hj hoj hcj)
          · rw [ho] at hoj; cases hoj; exact absurd hcj hc
        · rintro j oj (hj | rfl) hoj
          · exact I.fit j oj hj hoj
          · rw [ho] at hoj; cases hoj; exact hfit
        · rintro j oj hj hE hoj
          by_cases hji : j = i
          · subst hji
            rw [ho] at hoj; cases hoj
            refine ⟨hd, hgd, ?_⟩
            rcases hf with ⟨h2, h3, _⟩ | ⟨h2, hf⟩
            · exact .inl ⟨h2, h3⟩
            · refine .inr ⟨h2, ?_⟩
              cases hcc : cls P o.op with
              | pure => rw [hcc] at hf; exact hf.2
              | read =>
                rw [hcc] at hf
                obtain ⟨rfl, hf⟩ := hf
                exact .inr hf
              | alloc =>
                rw [hcc] at hf
                obtain ⟨B, rfl, hf⟩ := hf
                simp only [if_true]
                refine ⟨(I.step.rel.fresh _ (Nat.le_refl _)).1, I.lev, by rw [H.alloc_next]; omega, ?_⟩
                have : TB.get h.next (h.alloc B).t = B := by rw [H.alloc_get, if_pos rfl]
                rw [this]; exact hf
              | world => exact absurd hcc hc
          · have hj' : dn j := hj.resolve_right hji
            obtain ⟨h1', h2, h3⟩ := I.pend j oj hj' hE hoj
            refine ⟨h1', h2, h3.imp id fun ⟨hw, h4⟩ => ⟨hw, ?_⟩⟩
            rw [hb2 j hji]
            cases hcj : cls P oj.op with
            | pure => rw [hcj] at h4; exact h4
            | read =>
              rw [hcj] at h4
              rcases h4 with h4 | h4
              · exact .inl (.inr ⟨hc, h4⟩)
              · exact .inr fun h'' hg' => h4 h'' (hgr.trans hg')
            | alloc =>
              rw [hcj] at h4
              obtain ⟨g1, g2, g3, g4⟩ := h4
              exact ⟨g1, g2, Nat.lt_of_lt_of_le g3 hnx, by rw [hold _ g3]; exact g4⟩
            | world => rw [hcj] at h4; exact h4
        · have hlt : ∀ j, j ≠ i → Owed P ρ opsA.toList val (fun j => dn j ∨ j = i) E j → (bl j).toNat < h.next.toNat ∧ Owed P ρ opsA.toList val dn E j := by
            rintro j hji ⟨hj, hE, oj, hoj, hcj, hw⟩
            have hj' : dn j := hj.resolve_right hji
            obtain ⟨_, _, h3⟩ := I.pend j oj hj' hE hoj
            rcases h3 with h3 | ⟨_, h4⟩
            · exact absurd h3.1 hw.not_skips
            · rw [hcj] at h4; exact ⟨h4.2.2.1, hj', hE, oj, hoj, hcj, hw⟩
          intro j k hj hk hjk
          have hjk : (if j = i then h.next else bl j) = (if k = i then h.next else bl k) := hjk
          by_cases hji : j = i
          · by_cases hki : k = i
            · rw [hji, hki]
            · rw [if_pos hji, if_neg hki] at hjk
              have := (hlt k hki hk).1
              rw [← hjk] at this; omega
          · by_cases hki : k = i
            · rw [if_neg hji, if_pos hki] at hjk
              have := (hlt j hji hj).1
              rw [hjk] at this; omega
            · rw [if_neg hji, if_neg hki] at hjk
              exact I.inj j k (hlt j hji hj).2 (hlt k hki hk).2 hjk
end
end SX
namespace SX
open Go
set_option linter.unusedVariables false
section
variable {P : Program} {ρ : Val} {live : Nat → Bool} {env : TV} {opsA : Array Oper} {A : Nat → Nat → Prop} {val : Nat → AV} {nt L : Nat} {m0 : MM} {h0 : H} {w0 : World} {a0 : Act}
variable {pl : List (Nat × Bool)} {h h' : H} {dn ws st E : Nat → Prop} {bl : Nat → Ps} {m : MM} {a : Act} {w : World}
theorem V.func_lit (m : MM) (f : FuncId) : V ρ m (.func f [] []) (.func (.func f) #[] #[]) := ⟨#[], #[], rfl, rfl, rfl⟩
theorem RInv.opsR (I : RInv P ρ live env opsA.toList A val nt L m0 h0 w0 a0 pl h h' dn ws st E bl m a w) (he : EnvR ρ m0 live env a0.tmps) {i : Nat} {op : Op}
    (hE : ¬ E i) (hA : ∀ j, A i j → E j) (hf : TmpsFit opsA.toList A i op) : OpsR ρ live env opsA.toList A val m a i op := by
  intro y hy u hu
  cases y with
  | tmp t =>
    rcases hu with ⟨j, oj, hAj, hoj, hdj, rfl⟩ | ⟨hno, hl, rfl⟩
    · exact I.vals j oj t (hA j hAj) hoj hdj
    · have hk := I.kept t (fun j oj hEj hoj hdj => by
        rcases hf t hy j oj hoj hdj with h1 | h1 | h1
        · exact hno j oj h1 hoj hdj
        · exact hE (I.cl j i hEj h1)
        · subst h1; exact hE hEj)
      show V ρ m _ (a.tmps.getD t undef)
      rw [hk]; exact V.mono I.step.ext _ _ (he t hl)
  | const v => exact avOf_ok hu
  | global g => exact hu.elim
  | func f => have hu' : u = .func f [] [] := hu; subst hu'; exact V.func_lit m f
theorem yielded_of {ops : Array Oper} {tmps : Array Value} {j : Nat} {oj : Oper} {t : Nat} (hj : ops[j]? = some oj) (ht : oj.dst = some t) :
    yielded ops tmps j = match tmps.getD t undef with | .bool b => some b | _ => none := by
  unfold yielded
  rw [hj, Option.bind_some, ht, Option.bind_some, Array.getD_eq_getD_getElem?]
  cases tmps[t]? with
  | none => rfl
  | some v => cases v <;> rfl
theorem arr_list {ops : Array Oper} {j : Nat} {o : Oper} : ops.toList[j]? = some o ↔ ops[j]? = some o := by rw [Array.getElem?_toList]
theorem RInv.wants (I : RInv P ρ live env opsA.toList A val nt L m0 h0 w0 a0 pl h h' dn ws st E bl m a w) {i : Nat} {o : Oper}
    (hA : ∀ j, A i j → E j) (hg : ∀ j w, o.guard = some (j, w) → A i j) (hw : Wants ρ opsA.toList val o) : Region.wanted o (yielded opsA a.tmps) = true := by
  unfold Region.wanted
  rcases hw with hw | ⟨j, w, hgd, ⟨oj, t, hoj, htj⟩, sb, hv, hd⟩
  · rw [hw]
  · rw [hgd]
    simp only []
    have hV := I.vals j oj t (hA j (hg j w hgd)) hoj htj
    rw [hv] at hV
    have hV' : a.tmps.getD t undef = .bool (sb.den ρ) := hV
    rw [yielded_of (arr_list.1 hoj) htj, hV', hd]
    simp
theorem RInv.skips (I : RInv P ρ live env opsA.toList A val nt L m0 h0 w0 a0 pl h h' dn ws st E bl m a w) {i : Nat} {o : Oper}
    (hA : ∀ j, A i j → E j) (hg : ∀ j w, o.guard = some (j, w) → A i j) (hw : Skips ρ opsA.toList val o) : Region.wanted o (yielded opsA a.tmps) = false := by
  unfold Region.wanted
  obtain ⟨j, w, hgd, ⟨oj, t, hoj, htj⟩, hs⟩ := hw
  rw [hgd]
  simp only []
  have hV := I.vals j oj t (hA j (hg j w hgd)) hoj htj
  rcases hs with ⟨vs, hv⟩ | ⟨sb, hv, hd⟩
  · rw [hv] at hV
    obtain ⟨b, hb, _⟩ := hV
    rw [yielded_of (arr_list.1 hoj) htj, hb]
    rfl
  · rw [hv] at hV
    have hV' : a.tmps.getD t undef = .bool (sb.den ρ) := hV
    rw [yielded_of (arr_list.1 hoj) htj, hV']
    cases hs : sb.den ρ <;> cases w <;> first | rfl | (exact absurd hs hd)
/-- temporaries behind an operation -/
theorem RInv.put (I : RInv P ρ live env opsA.toList A val nt L m0 h0 w0 a0 pl h h' dn ws st E bl m a w) (hds : DstsOK opsA.toList nt) (hnt : nt ≤ a0.tmps.size) {i : Nat} {o : Oper} (ho : opsA.toList[i]? = some o) {m' : MM} (hm : Ext m m') {v' : Value}
    (hV : V ρ m' (val i) v') :
    (∀ j oj t, (E j ∨ j = i) → opsA.toList[j]? = some oj → oj.dst = some t → V ρ m' (val j) ((a.put o.dst v').tmps.getD t undef)) ∧
    (∀ t, (∀ j oj, (E j ∨ j = i) → opsA.toList[j]? = some oj → oj.dst ≠ some t) → (a.put o.dst v').tmps.getD t undef = a0.tmps.getD t undef) := by
  refine ⟨fun j oj t hj hoj ht => ?_, fun t ht => ?_⟩
  · rw [put_get]
    by_cases hji : j = i
    · subst hji
      rw [ho] at hoj; cases hoj
      rw [if_pos ⟨ht, by rw [I.size]; exact Nat.lt_of_lt_of_le (hds.lt ho ht) hnt⟩]
      exact hV
    · rw [if_neg (fun hc => hji (hds.one hoj ho ht hc.1))]
      exact V.mono hm _ _ (I.vals j oj t (hj.resolve_right hji) hoj ht)
  · rw [put_get, if_neg (fun hc => ht i o (.inr rfl) ho hc.1)]
    exact I.kept t fun j oj hj hoj => ht j oj (.inl hj) hoj
theorem RInv.go (I : RInv P ρ live env opsA.toList A val nt L m0 h0 w0 a0 pl h h' dn ws st E bl m a w) (hs : Settled P opsA.toList pl st) (hds : DstsOK opsA.toList nt) (hnt : nt ≤ a0.tmps.size) (he : EnvR ρ m0 live env a0.tmps) {i : Nat} (hi : i < opsA.size) (hE : ¬ E i) (hA : ∀ j, A i j → E j) (b : Frame) (k : List Item) (cs : List Frame) (rest : List Nat) :
    ∃ pl₁ h₁ dn₁ ws₁ st₁ m₁ a₁ w₁, RInv P ρ live env opsA.toList A val nt L m0 h0 w0 a0 pl₁ h₁ h' dn₁ ws₁ st₁ (fun j => E j ∨ j = i) bl m₁ a₁ w₁ ∧
      Steps P (lone (b.atR a (.inRegion opsA (i :: rest) :: k)) cs w) (lone (b.atR a₁ (.inRegion opsA rest :: k)) cs w₁) := by
  have ho : opsA[i]? = some opsA[i] := Array.getElem?_eq_getElem hi
  generalize opsA[i] = o at ho
  have hol : opsA.toList[i]? = some o := arr_list.2 ho
  by_cases hdi : dn i
  · -- it was planned by now
    have hR := I.opsR he hE hA (I.fit i o hdi hol)
    obtain ⟨hnd, hg, hp⟩ := I.pend i o hdi hE hol
    have hcl : ∀ j k, (E j ∨ j = i) → A j k → (E k ∨ k = i) := fun j k hj hk => by
      rcases hj with hj | rfl
      · exact .inl (I.cl j k hj hk)
      · exact .inl (hA k hk)
    have hsub : ∀ j, (E j ∨ j = i) → dn j := fun j hj => hj.elim (I.sub j) fun h => h ▸ hdi
    have howed : ∀ j, Owed P ρ opsA.toList val dn (fun j => E j ∨ j = i) j → Owed P ρ opsA.toList val dn E j := fun j ⟨h1, h2, h3⟩ => ⟨h1, fun h => h2 (.inl h), h3⟩
    -- nothing happens in the world
    have calm : ∀ v', V ρ m (val i) v' → (Steps P (lone (b.atR a (.inRegion opsA (i :: rest) :: k)) cs w) (lone (b.atR (a.put o.dst v') (.inRegion opsA rest :: k)) cs w)) →
        ∃ pl₁ h₁ dn₁ ws₁ st₁ m₁ a₁ w₁, RInv P ρ live env opsA.toList A val nt L m0 h0 w0 a0 pl₁ h₁ h' dn₁ ws₁ st₁ (fun j => E j ∨ j = i) bl m₁ a₁ w₁ ∧
          Steps P (lone (b.atR a (.inRegion opsA (i :: rest) :: k)) cs w) (lone (b.atR a₁ (.inRegion opsA rest :: k)) cs w₁) := by
      intro v' hV hst
      obtain ⟨p1, p2⟩ := I.put hds hnt hol (Ext.refl m) hV
      exact ⟨pl, h, dn, ws, st, m, a.put o.dst v', w, ⟨I.ok, I.sem, I.step, I.lev, hsub, fun j hj => .inl (I.wsE j hj), I.dnw, hcl, I.fit, p1, p2, (put_size ..).trans I.size, (put_defers ..).trans I.defers,
        fun j oj hj hjE hoj => I.pend j oj hj (fun h => hjE (.inl h)) hoj, fun j k hj hk => I.inj j k (howed j hj) (howed k hk)⟩, hst⟩
    rcases hp with ⟨hsk, hv⟩ | ⟨hw, hp⟩
    · refine calm undef (by rw [hv]; exact ⟨#[], rfl, rfl⟩) (goes_skip ho (I.skips hA hg hsk))
    · have hwd := I.wants hA hg hw
      cases hc : cls P o.op with
      | pure =>
        rw [hc] at hp
        obtain ⟨v', hV, hrun⟩ := hp m a hR
        exact calm v' hV (Goes.of_run hnd (hrun o w rfl rfl) (.inl rfl) b k cs opsA i rest ho hwd)
      | read =>
        rw [hc] at hp
        have hp := hp.resolve_left (hs.1 i)
        obtain ⟨v', hV, hrun⟩ := hp h (Grown.refl h) m a w I.step.rel hR
        exact calm v' hV (Goes.of_run hnd (hrun o rfl rfl) (.inl rfl) b k cs opsA i rest ho hwd)
      | alloc =>
        rw [hc] at hp
        obtain ⟨hmp, hLp, hpl, hal⟩ := hp
        obtain ⟨obj, z, hnew, hrun⟩ := hal m a hR
        obtain ⟨v', hrun, hV⟩ := hrun o w rfl rfl
        have hst := I.step.rel.born (L := L) hmp hLp hpl hnew
        have hV' := hV _ (upd_same m (bl i) (w.heap.size, 0, z))
        obtain ⟨p1, p2⟩ := I.put hds hnt hol hst.ext hV'
        have hio : Owed P ρ opsA.toList val dn E i := ⟨hdi, hE, o, hol, hc, hw⟩
        refine ⟨pl, h, dn, ws, st, _, a.put o.dst v', _, ⟨I.ok, I.sem, I.step.trans hst, I.lev, hsub, fun j hj => .inl (I.wsE j hj), I.dnw, hcl, I.fit, p1, p2, (put_size ..).trans I.size, (put_defers ..).trans I.defers,
          fun j oj hj hjE hoj => ?_, fun j k hj hk => I.inj j k (howed j hj) (howed k hk)⟩, Goes.of_run hnd hrun (.inl rfl) b k cs opsA i rest ho hwd⟩
        have hjE' : ¬ E j := fun h => hjE (.inl h)
        obtain ⟨q1, q2, q3⟩ := I.pend j oj hj hjE' hoj
        refine ⟨q1, q2, q3.imp id fun ⟨hjw, q4⟩ => ⟨hjw, ?_⟩⟩
        cases hcj : cls P oj.op with
        | pure => rw [hcj] at q4; exact q4
        | read => rw [hcj] at q4; exact q4
        | alloc =>
          rw [hcj] at q4
          obtain ⟨g1, g2, g3, g4⟩ := q4
          refine ⟨?_, g2, g3, g4⟩
          rw [upd_other (fun e => hjE (.inr (I.inj j i ⟨hj, hjE', oj, hoj, hcj, hjw⟩ hio e)))]; exact g1
        | world => rw [hcj] at q4; exact q4
      | world => rw [hc] at hp; exact hp.elim
  · -- it changes the world, and its turn has come
    have hlen : i < opsA.toList.length := by simpa using hi
    rcases hs.2 with rfl | ⟨u, l, ou, rfl, hou, hcu⟩
    · exact absurd (I.ok.2 i hlen) hdi
    · have hok := I.ok
      obtain ⟨ou', hou', hnd, hAu, hwA, hfit, hgf, hstw, hok⟩ := hok
      rw [hou] at hou'; cases hou'
      have hiu : i = u := by
        apply Classical.byContradiction
        intro hne
        have := hok.later i hlen (fun hh => hh.elim hdi hne) u (.inr ⟨rfl, hcu⟩)
        exact hnd (I.sub u (hA u this))
      subst hiu
      rw [hol] at hou; cases hou
      have hR := I.opsR he hE hA hfit
      obtain ⟨o', h1, ho', hf, hsem⟩ := I.sem
      rw [hol] at ho'; cases ho'
      obtain ⟨hndf, hg, hf⟩ := hf
      have hcl : ∀ j k, (E j ∨ j = i) → A j k → (E k ∨ k = i) := fun j k hj hk => by
        rcases hj with hj | rfl
        · exact .inl (I.cl j k hj hk)
        · exact .inl (hA k hk)
      have key : ∀ (m' : MM) (v' : Value) (w' : World), Step P ρ h.next.toNat m h w m' h1 w' → V ρ m' (val i) v' →
          (Steps P (lone (b.atR a (.inRegion opsA (i :: rest) :: k)) cs w) (lone (b.atR (a.put o.dst v') (.inRegion opsA rest :: k)) cs w')) →
          ∃ pl₁ h₁ dn₁ ws₁ st₁ m₁ a₁ w₁, RInv P ρ live env opsA.toList A val nt L m0 h0 w0 a0 pl₁ h₁ h' dn₁ ws₁ st₁ (fun j => E j ∨ j = i) bl m₁ a₁ w₁ ∧
            Steps P (lone (b.atR a (.inRegion opsA (i :: rest) :: k)) cs w) (lone (b.atR a₁ (.inRegion opsA rest :: k)) cs w₁) := by
        intro m' v' w' hst hV hgo
        obtain ⟨p1, p2⟩ := I.put hds hnt hol hst.ext hV
        have hpend : ∀ j oj, dn j → ¬ (E j ∨ j = i) → opsA.toList[j]? = some oj → Pend P ρ live env opsA.toList A val L j oj m' h1 ((cls P o.op = .world ∧ dn j ∧ ReadAt P opsA.toList j ∧ ¬ A i j) ∨ (cls P o.op ≠ .world ∧ st j)) (bl j) := by
          intro j oj hj hjE hoj
          have hjE' : ¬ E j := fun h => hjE (.inl h)
          obtain ⟨q1, q2, q3⟩ := I.pend j oj hj hjE' hoj
          refine ⟨q1, q2, q3.imp id fun ⟨hjw, q4⟩ => ⟨hjw, ?_⟩⟩
          cases hcj : cls P oj.op with
          | pure => rw [hcj] at q4; exact q4
          | read => rw [hcj] at q4; exact .inl (.inl ⟨hcu, hj, ⟨oj, hoj, hcj⟩, fun hAj => hjE' (hA j hAj)⟩)
          | alloc =>
            rw [hcj] at q4
            obtain ⟨g1, g2, g3, g4⟩ := q4
            obtain ⟨e1, e2⟩ := hst.still _ g3 g1
            exact ⟨e1, g2, Nat.lt_of_lt_of_le g3 hst.next, by rw [e2]; exact g4⟩
          | world => rw [hcj] at q4; exact q4
        have howed : ∀ j, Owed P ρ opsA.toList val (fun j => dn j ∨ j = i) (fun j => E j ∨ j = i) j → Owed P ρ opsA.toList val dn E j := fun j ⟨g1, g2, g3⟩ => ⟨g1.resolve_right fun h => g2 (.inr h), fun h => g2 (.inl h), g3⟩
        refine ⟨l, h1, _, _, _, m', a.put o.dst v', w', ⟨hok, hsem, I.step.trans (hst.lower I.lev), Nat.le_trans I.lev hst.next, fun j hj => hj.imp (I.sub j) id, ?_, ?_, hcl, ?_, p1, p2, (put_size ..).trans I.size, (put_defers ..).trans I.defers, ?_, ?_⟩, hgo⟩
        · rintro j (hj | ⟨hj, _⟩)
          · exact .inl (I.wsE j hj)
          · exact .inr hj
        · rintro j oj (hj | rfl) hoj hcj
          · exact .inl (I.dnw j oj hj hoj hcj)
          · exact .inr ⟨rfl, hcu⟩
        · rintro j oj (hj | rfl) hoj
          · exact I.fit j oj hj hoj
          · rw [hol] at hoj; cases hoj; exact hfit
        · rintro j oj hj hjE hoj
          exact hpend j oj (hj.resolve_right fun h => hjE (.inr h)) hjE hoj
        · exact fun j k hj hk => I.inj j k (howed j hj) (howed k hk)
      rcases hf with ⟨hsk, hv, rfl⟩ | ⟨hw, hf⟩
      · refine key m undef w (Step.refl I.step.rel) (by rw [hv]; exact ⟨#[], rfl, rfl⟩) (goes_skip ho (I.skips hA hg hsk))
      · rw [hcu] at hf
        obtain ⟨m', w', v', hst, hV, hgo⟩ := hf m a w _ I.step.rel (Nat.le_refl _) hR b k cs opsA i rest ho (I.wants hA hg hw)
        exact key m' v' w' hst hV hgo
/-- an order in which a region is done -/
def Sched (n : Nat) (A : Nat → Nat → Prop) : List Nat → (Nat → Prop) → Prop
  | [], E => ∀ i, i < n → E i
  | i :: l, E => i < n ∧ ¬ E i ∧ (∀ j, A i j → E j) ∧ Sched n A l (fun j => E j ∨ j = i)
theorem RInv.all (hds : DstsOK opsA.toList nt) (hnt : nt ≤ a0.tmps.size) (he : EnvR ρ m0 live env a0.tmps) (b : Frame) (k : List Item) (cs : List Frame) : ∀ {l : List Nat} {pl : List (Nat × Bool)} {h : H} {dn ws st E : Nat → Prop} {bl : Nat → Ps} {m : MM} {a : Act} {w : World},
    RInv P ρ live env opsA.toList A val nt L m0 h0 w0 a0 pl h h' dn ws st E bl m a w → Sched opsA.size A l E →
    ∃ m₁ a₁ w₁, Step P ρ L m0 h0 w0 m₁ h' w₁ ∧ (∀ (i : Nat) (o : Oper) (t : Nat), opsA[i]? = some o → o.dst = some t → V ρ m₁ (val i) (a₁.tmps.getD t undef)) ∧
      (∀ t, (∀ (i : Nat) (o : Oper), opsA[i]? = some o → o.dst ≠ some t) → a₁.tmps.getD t undef = a0.tmps.getD t undef) ∧ a₁.tmps.size = a0.tmps.size ∧ a₁.defers = a0.defers ∧
      Steps P (lone (b.atR a (.inRegion opsA l :: k)) cs w) (lone (b.atR a₁ k) cs w₁) := by
  intro l
  induction l with
  | nil =>
    intro pl h dn ws st E bl m a w I hs
    obtain ⟨pl, h, dn, ws, st, bl, I, hset⟩ := I.settle
    have hdn : ∀ i, i < opsA.size → dn i := fun i hi => I.sub i (hs i hi)
    have hpl : pl = [] := by
      rcases hset.2 with h | ⟨u, l, o, rfl, hou, _⟩
      · exact h
      · obtain ⟨o', h1, h2, _⟩ := I.ok
        have := (List.getElem?_eq_some_iff.1 hou).1
        exact absurd (hdn u (by simpa using this)) h2
    subst hpl
    have hh : h' = h := I.sem
    subst hh
    refine ⟨m, a, w, I.step, fun i o t ho ht => I.vals i o t (hs i ?_) (arr_list.2 ho) ht, fun t ht => I.kept t fun i o hE ho => ht i o (arr_list.1 ho), I.size, I.defers, .one stepR_region_end⟩
    exact (Array.getElem?_eq_some_iff.1 ho).1
  | cons i l ih =>
    intro pl h dn ws st E bl m a w I hs
    obtain ⟨hi, hE, hA, hs⟩ := hs
    obtain ⟨pl, h, dn, ws, st, bl, I, hset⟩ := I.settle
    obtain ⟨pl₁, h₁, dn₁, ws₁, st₁, m₁, a₁, w₁, I₁, hgo⟩ := I.go hset hds hnt he hi hE hA b k cs l
    obtain ⟨m₂, a₂, w₂, r1, r2, r3, r4, r5, r6⟩ := ih I₁ hs
    exact ⟨m₂, a₂, w₂, r1, r2, r3, r4, r5, hgo.trans r6⟩
theorem RInv.start (r : Rel P ρ m0 h0 w0) (hL : L ≤ h0.next.toNat) (hok : PlanOK P opsA.toList A pl (fun _ => False) (fun _ => False) (fun _ => False)) (hsem : SemRun P ρ live env opsA.toList A val pl h0 h') :
    RInv P ρ live env opsA.toList A val nt L m0 h0 w0 a0 pl h0 h' (fun _ => False) (fun _ => False) (fun _ => False) (fun _ => False) (fun _ => .h) m0 a0 w0 where
  ok := hok
  sem := hsem
  step := Step.refl r
  lev := hL
  sub _ h := h
  wsE _ h := h
  dnw _ _ h := h.elim
  cl _ _ h := h.elim
  fit _ _ h := h.elim
  vals _ _ _ h := h.elim
  kept _ _ := rfl
  size := rfl
  defers := rfl
  pend _ _ h := h.elim
  inj _ _ h := h.1.elim
end
end SX
namespace SX
open Go
set_option linter.unusedVariables false
/-! ### the orders in which regions are done -/
theorem sched_range (n : Nat) : ∀ (m k : Nat), k + m = n → Sched n (fun i j => j < i) (List.range' k m) (fun j => j < k) := by
  intro m
  induction m with
  | zero => intro k hk i hi; show i < k; omega
  | succ m ih =>
    intro k hk
    refine ⟨by omega, fun h => Nat.lt_irrefl _ h, fun j hj => hj, ?_⟩
    have h1 : (fun j => j < k ∨ j = k) = fun j => j < k + 1 := funext fun j => propext ⟨fun h => by omega, fun h => by omega⟩
    rw [h1]
    exact ih (k + 1) (by omega)
theorem fold_bits (f : Nat → Nat) (k : Nat) : ∀ (es : List Nat) (m : Nat), (es.foldl (fun m j => m ||| 2 ^ j ||| f j) m).testBit k = true → m.testBit k = true ∨ ∃ e ∈ es, k = e ∨ (f e).testBit k = true := by
  intro es
  induction es with
  | nil => intro m h; exact .inl h
  | cons e es ih =>
    intro m h
    rcases ih _ h with h | ⟨e', he', h⟩
    · rw [Nat.testBit_or, Bool.or_eq_true] at h
      rcases h with h | h
      · rcases (bit_or m e k).1 h with h | h
        · exact .inl h
        · exact .inr ⟨e, List.mem_cons_self .., .inl h⟩
      · exact .inr ⟨e, List.mem_cons_self .., .inr h⟩
    · exact .inr ⟨e', List.mem_cons_of_mem _ he', h⟩
/-- what is said of the ancestors -/
def Good (an : List Nat) (ops : List Oper) : Prop := ∀ i o, ops[i]? = some o → (∀ e ∈ edgesOf o, e < i) ∧ ∀ j, (an.getD i 0).testBit j = true → ∃ e ∈ edgesOf o, j = e ∨ (an.getD e 0).testBit j = true
theorem ancs_aux : ∀ (l pre : List Oper) (acc an : List Nat), acc.length = pre.length → Good acc.reverse pre → ancs l pre.length acc = some an → Good an (pre ++ l) := by
  intro l
  induction l with
  | nil => intro pre acc an hl hg h; cases (Option.some.inj h); rw [List.append_nil]; exact hg
  | cons o l ih =>
    intro pre acc an hl hg h
    unfold ancs at h
    split at h
    · rename_i hall
      have hlt : ∀ e ∈ edgesOf o, e < pre.length := fun e he => Nat.le_of_ble_eq_true (List.all_eq_true.1 hall e he)
      have h' : pre.length + 1 = (pre ++ [o]).length := by simp
      rw [h'] at h
      have := ih (pre ++ [o]) _ an (by simp [hl]) ?_ h
      · rwa [List.append_assoc] at this
      · intro i oi hi
        rw [List.reverse_cons]
        have hget : ∀ j, j < pre.length → (acc.reverse ++ [(edgesOf o).foldl (fun m j => m ||| 2 ^ j ||| acc.getD (pre.length - 1 - j) 0) 0]).getD j 0 = acc.reverse.getD j 0 := by
          intro j hj
          rw [List.getD_eq_getElem?_getD, List.getD_eq_getElem?_getD, List.getElem?_append_left (by simpa [hl] using hj)]
        by_cases hip : i < pre.length
        · rw [List.getElem?_append_left hip] at hi
          obtain ⟨g1, g2⟩ := hg i oi hi
          refine ⟨g1, fun j hj => ?_⟩
          rw [hget i hip] at hj
          obtain ⟨e, he, h3⟩ := g2 j hj
          exact ⟨e, he, h3.imp id fun h4 => by rw [hget e (Nat.lt_trans (g1 e he) hip)]; exact h4⟩
        · have hie : i = pre.length := by
            have := (List.getElem?_eq_some_iff.1 hi).1
            simp at this; omega
          subst hie
          rw [List.getElem?_append_right (Nat.le_refl _), Nat.sub_self] at hi
          simp at hi; subst hi
          refine ⟨hlt, fun j hj => ?_⟩
          rw [List.getD_eq_getElem?_getD, List.getElem?_append_right (by simp [hl]), List.length_reverse, hl, Nat.sub_self] at hj
          simp only [List.getElem?_cons_zero, Option.getD_some] at hj
          rcases fold_bits _ j _ _ hj with h4 | ⟨e, he, h4⟩
          · simp at h4
          · refine ⟨e, he, h4.imp id fun h5 => ?_⟩
            rw [hget e (hlt e he)]
            have hel := hlt e he
            rw [List.getD_eq_getElem?_getD, List.getElem?_reverse (by omega), hl, ← List.getD_eq_getElem?_getD]
            exact h5
    · cases h
theorem ancs_good {ops : List Oper} {an : List Nat} (h : ancs ops 0 [] = some an) : Good an ops := by
  have := ancs_aux ops [] [] an rfl (fun i o hi => by simp at hi) h
  simpa using this
theorem countP_lt {p q : Nat → Bool} : ∀ {l : List Nat}, (∀ x, q x = true → p x = true) → ∀ {i}, i ∈ l → p i = true → q i = false → l.countP q < l.countP p := by
  intro l
  induction l with
  | nil => intro _ i hi; cases hi
  | cons x l ih =>
    intro h i hi hp hq
    have hmono : l.countP q ≤ l.countP p := List.countP_mono_left fun x _ hx => h x hx
    rcases List.mem_cons.1 hi with rfl | hi
    · rw [List.countP_cons, List.countP_cons, hp, hq]; simp; omega
    · have := ih h hi hp hq
      rw [List.countP_cons, List.countP_cons]
      cases hqx : q x with
      | true => rw [h x hqx]; simp; exact this
      | false => cases hpx : p x <;> simp <;> omega
theorem mem_edges {o : Oper} {e : Edge} (he : e ∈ o.after) (hb : Region.binds .any e = true) : e.on ∈ edgesOf o :=
  List.mem_map.2 ⟨e, List.mem_filter.2 ⟨by simpa using he, hb⟩, rfl⟩
theorem edges_mem {o : Oper} {j : Nat} (h : j ∈ edgesOf o) : ∃ e ∈ o.after, Region.binds .any e = true ∧ e.on = j := by
  obtain ⟨e, h1, h2⟩ := List.mem_map.1 h
  obtain ⟨h3, h4⟩ := List.mem_filter.1 h1
  exact ⟨e, by simpa using h3, h4, h2⟩
/-- closed by edges: closed by ancestors -/
theorem closed_up {an : List Nat} {ops : List Oper} (hg : Good an ops) {E : Nat → Prop} (hE : ∀ i o, E i → ops[i]? = some o → ∀ e ∈ edgesOf o, E e) (hlt : ∀ i, E i → i < ops.length) :
    ∀ (n i : Nat) (o : Oper), i < n → ops[i]? = some o → (∀ e ∈ edgesOf o, E e) → ∀ j, (an.getD i 0).testBit j = true → E j := by
  intro n
  induction n with
  | zero => intro i o hi; omega
  | succ n ih =>
    intro i o hi ho he j hj
    obtain ⟨g1, g2⟩ := hg i o ho
    obtain ⟨e, hee, h⟩ := g2 j hj
    rcases h with rfl | h
    · exact he _ hee
    · have h1 := he e hee
      have h2 : ops[e]? = some (ops[e]'(hlt e h1)) := List.getElem?_eq_getElem _
      exact ih e _ (by have := g1 e hee; omega) h2 (hE e _ h1 h2) j h
theorem sched_go {an : List Nat} {ops : Array Oper} (hg : Good an ops.toList) : ∀ (fuel t : Nat) (listed : Array Bool) (E : Nat → Prop), listed.size = ops.size → (∀ i, E i ↔ listed.getD i false = true) →
    (∀ i o, E i → ops.toList[i]? = some o → ∀ e ∈ edgesOf o, E e) → (List.range ops.size).countP (fun i => !listed.getD i true) ≤ fuel →
    Sched ops.size (fun i j => (an.getD i 0).testBit j = true) (Region.linearise.go .any ops fuel t listed []) E := by
  intro fuel
  induction fuel with
  | zero =>
    intro t listed E hsz hE hcl hc i hi
    have h0 := List.countP_eq_zero.1 (Nat.le_zero.1 hc) i (List.mem_range.2 hi)
    rw [hE]
    have hi' : i < listed.size := by omega
    simp [hi'] at h0 ⊢
    exact h0
  | succ fuel ih =>
    intro t listed E hsz hE hcl hc
    have hlt : ∀ i, E i → i < ops.toList.length := fun i hi => by
      have := (hE i).1 hi
      rcases Nat.lt_or_ge i listed.size with h | h
      · simpa [← hsz] using h
      · simp [Array.getElem?_eq_none h] at this
    simp only [Region.linearise.go]
    change Sched ops.size _ (match (Region.ready .any ops listed)[t % (Region.ready .any ops listed).length]? with
      | some i => Region.linearise.go .any ops fuel (t / (Region.ready .any ops listed).length) (listed.setIfInBounds i true) [i]
      | none => [].reverse) E
    cases hi : (Region.ready .any ops listed)[t % (Region.ready .any ops listed).length]? with
    | none =>
      have hnil : Region.ready .any ops listed = [] := by
        cases hr : Region.ready .any ops listed with
        | nil => rfl
        | cons x xs =>
          rw [hr] at hi
          have hlt : t % (x :: xs).length < (x :: xs).length := Nat.mod_lt _ (by simp)
          simp at hi
          simp at hlt
          omega
      -- all are listed
      intro i
      show i < ops.size → E i
      induction i using Nat.strongRecOn with
      | _ i ihi =>
        intro hi
        apply Classical.byContradiction
        intro hnE
        have ho : ops[i]? = some ops[i] := Array.getElem?_eq_getElem hi
        have : i ∈ Region.ready .any ops listed := by
          rw [mem_ready]
          refine ⟨?_, ops[i], ho, fun e he hb => ?_⟩
          · have hi' : i < listed.size := by omega
            have : ¬ listed.getD i false = true := fun h => hnE ((hE i).2 h)
            simp [hi'] at this ⊢
            exact this
          · have hme := mem_edges he hb
            have hlt' := (hg i ops[i] (arr_list.2 ho)).1 _ hme
            exact (hE _).1 (ihi _ hlt' (by omega))
        rw [hnil] at this; cases this
    | some i =>
      simp only []
      rw [linearise_go_acc, List.reverse_singleton, List.singleton_append]
      have hmem := List.mem_of_getElem? hi
      obtain ⟨hun, o, ho, hall⟩ := mem_ready.1 hmem
      have hil : i < ops.size := (Array.getElem?_eq_some_iff.1 ho).1
      have hil' : i < listed.size := by omega
      have hedge : ∀ e ∈ edgesOf o, E e := fun e he => by
        obtain ⟨x, h1, h2, rfl⟩ := edges_mem he
        exact (hE _).2 (hall x h1 h2)
      have hset : ∀ j, (listed.setIfInBounds i true).getD j false = true ↔ (E j ∨ j = i) := by
        intro j
        by_cases hji : j = i
        · subst hji; simp [hil']
        · rw [hE j]
          have := getD_set_ne (listed := listed) false (i := i) (j := j) (fun h => hji h.symm)
          rw [this]; simp [hji]
      refine ⟨hil, fun h => ?_, fun j hj => ?_, ih _ _ _ (by simp [hsz]) (fun j => (hset j).symm) ?_ ?_⟩
      · have := (hE i).1 h
        simp [hil'] at this hun
        rw [hun] at this; cases this
      · exact closed_up hg hcl hlt (i + 1) i o (by omega) (arr_list.2 ho) hedge j hj
      · rintro j oj (hj | rfl) hoj e he
        · exact .inl (hcl j oj hj hoj e he)
        · rw [arr_list.2 ho] at hoj; cases hoj; exact .inl (hedge e he)
      · have h1 : (List.range ops.size).countP (fun j => !(listed.setIfInBounds i true).getD j true) < (List.range ops.size).countP (fun i => !listed.getD i true) := by
          refine countP_lt (fun x hx => ?_) (List.mem_range.2 hil) (by rw [hun]; rfl) (by simp [hil'])
          by_cases hxi : x = i
          · subst hxi; simp [hil'] at hx
          · rw [getD_set_ne true (fun h => hxi h.symm)] at hx; exact hx
        omega
theorem sched_draw {an : List Nat} {ops : Array Oper} (h : ancs ops.toList 0 [] = some an) (t : Nat) :
    Sched ops.size (fun i j => (an.getD i 0).testBit j = true) (Region.linearise .any ops t) (fun _ => False) := by
  refine sched_go (ancs_good h) _ _ _ _ (by simp) (fun i => ?_) (fun _ _ h => h.elim) ?_
  · constructor
    · exact fun h => h.elim
    · intro h
      rcases Nat.lt_or_ge i ops.size with h' | h'
      · simp [h'] at h
      · simp [h'] at h
  · exact Nat.le_trans (List.countP_le_length) (by simp)
end SX
namespace SX
open Go
set_option linter.unusedVariables false
/-! ### what an operation is translated to hangs on its operands alone -/
section
variable {P : Program} {live live' : Nat → Bool} {d d' : Done}
theorem mapO_congr {α β : Type} {f g : α → M β} : ∀ {l : List α}, (∀ x ∈ l, f x = g x) → mapO f l = mapO g l
  | [], _ => rfl
  | x :: l, h => by
    have h1 := h x (List.mem_cons_self ..)
    have h2 := mapO_congr (f := f) (g := g) (l := l) fun y hy => h y (List.mem_cons_of_mem _ hy)
    unfold mapO; rw [h1, h2]
theorem ol_congr {l : List Operand} (h : ∀ y ∈ l, trOpd live' d' y = trOpd live d y) : ol live' d' l = ol live d l := mapO_congr h
theorem parts_congr {place : Nat → Option (Nat × Nat)} : ∀ {l : List (Nat × Operand)}, (∀ y ∈ l, trOpd live' d' y.2 = trOpd live d y.2) → parts live' d' place l = parts live d place l
  | [], _ => rfl
  | (i, x) :: l, h => by
    have h1 := h (i, x) (List.mem_cons_self ..)
    have h2 := parts_congr (place := place) (l := l) fun y hy => h y (List.mem_cons_of_mem _ hy)
    unfold parts
    simp only at h1
    rw [h1, h2]
theorem oo_congr {x : Option Operand} (h : ∀ y ∈ x, trOpd live' d' y = trOpd live d y) : oo live' d' x = oo live d x := by
  cases x with
  | none => rfl
  | some y => show (trOpd live' d' y).map some = (trOpd live d y).map some; rw [h y rfl]
theorem trBin_congr {b : BinOp} {t : Nat} {x y : Operand} (hx : trOpd live' d' x = trOpd live d x) (hy : trOpd live' d' y = trOpd live d y) : trBin P live' d' b t x y = trBin P live d b t x y := by
  have h1 : ∀ f, o2 live' d' f x y = o2 live d f x y := fun f => by unfold o2; rw [hx, hy]
  have h2 : ∀ f, o2 live' d' f y x = o2 live d f y x := fun f => by unfold o2; rw [hx, hy]
  unfold trBin; simp only [h1, h2]
theorem trOp_congr {op : Op} (hc : ∀ y ∈ op.operands, trOpd live' d' y = trOpd live d y) : trOp P live' d' op = trOp P live d op := by
  have ho1 : ∀ {x : Operand}, x ∈ op.operands → ∀ f, o1 live' d' f x = o1 live d f x := fun hx f => by unfold o1; rw [hc _ hx]
  have ho2 : ∀ {x y : Operand}, x ∈ op.operands → y ∈ op.operands → ∀ f, o2 live' d' f x y = o2 live d f x y := fun hx hy f => by unfold o2; rw [hc _ hx, hc _ hy]
  have ho3 : ∀ {x y z : Operand}, x ∈ op.operands → y ∈ op.operands → z ∈ op.operands → ∀ f, o3 live' d' f x y z = o3 live d f x y z := fun hx hy hz f => by unfold o3; rw [hc _ hx, hc _ hy, hc _ hz]
  cases op with
  | pick c a b => exact ho3 (by simp [Op.operands]) (by simp [Op.operands]) (by simp [Op.operands]) _
  | box t x => exact ho1 (by simp [Op.operands]) _
  | build t ps =>
    have h : ∀ y ∈ ps.toList, trOpd live' d' y.2 = trOpd live d y.2 := fun y hy => hc _ (by simp [Op.operands]; exact ⟨y.1, by simpa using hy⟩)
    unfold trOp; simp only [parts_congr h]
  | buildSlice t n ps =>
    have h : ∀ y ∈ ps.toList, trOpd live' d' y.2 = trOpd live d y.2 := fun y hy => hc _ (by simp [Op.operands]; exact ⟨y.1, by simpa using hy⟩)
    unfold trOp; simp only [parts_congr h]
  | load t x => unfold trOp; simp only [ho1 (x := x) (by simp [Op.operands])]
  | store t x y => unfold trOp; simp only [ho2 (x := x) (y := y) (by simp [Op.operands]) (by simp [Op.operands])]
  | nilCheck x => exact ho1 (by simp [Op.operands]) _
  | binOp b t x y t' => exact trBin_congr (hc _ (by simp [Op.operands])) (hc _ (by simp [Op.operands]))
  | unOp u t x =>
    have h1 := fun f => ho1 (x := x) (by simp [Op.operands]) f
    cases u with
    | not => exact h1 _
    | neg => unfold trOp; simp only [o1] at h1 ⊢; simp only [hc x (by simp [Op.operands])]
    | _ => rfl
  | convert s t x => unfold trOp; simp only [ho1 (x := x) (by simp [Op.operands])]
  | makeFunc f xs ys =>
    have h1 := ol_congr (live := live) (live' := live') (d := d) (d' := d') (l := xs.toList) fun y hy => hc y (by simp [Op.operands]; exact .inl (by simpa using hy))
    have h2 := ol_congr (live := live) (live' := live') (d := d) (d' := d') (l := ys.toList) fun y hy => hc y (by simp [Op.operands]; exact .inr (by simpa using hy))
    cases f with
    | func f => unfold trOp; simp only [h1, h2]
    | _ => rfl
  | makeMap t x => cases x <;> rfl
  | makeSlice t x y => unfold trOp; simp only [ho2 (x := x) (y := y) (by simp [Op.operands]) (by simp [Op.operands])]
  | makeInterface t x => unfold trOp; simp only [ho1 (x := x) (by simp [Op.operands])]
  | slice t x lo hi mx =>
    have h1 := oo_congr (live := live) (live' := live') (d := d) (d' := d') (x := lo) fun y hy => hc y (by simp [Op.operands]; exact .inr (.inl hy))
    have h2 := oo_congr (live := live) (live' := live') (d := d) (d' := d') (x := hi) fun y hy => hc y (by simp [Op.operands]; exact .inr (.inr (.inl hy)))
    have h3 := oo_congr (live := live) (live' := live') (d := d) (d' := d') (x := mx) fun y hy => hc y (by simp [Op.operands]; exact .inr (.inr (.inr hy)))
    unfold trOp; simp only [h1, h2, h3, hc x (by simp [Op.operands])]
  | fieldAddr t x f => unfold trOp; simp only [ho1 (x := x) (by simp [Op.operands])]
  | field t x f => unfold trOp; simp only [ho1 (x := x) (by simp [Op.operands])]
  | indexAddr t x i => unfold trOp; simp only [ho2 (x := x) (y := i) (by simp [Op.operands]) (by simp [Op.operands])]
  | index t x i => unfold trOp; simp only [ho2 (x := x) (y := i) (by simp [Op.operands]) (by simp [Op.operands])]
  | lookup t x i ok => unfold trOp; simp only [ho2 (x := x) (y := i) (by simp [Op.operands]) (by simp [Op.operands])]
  | mapUpdate t x k v => unfold trOp; simp only [ho3 (x := x) (y := k) (z := v) (by simp [Op.operands]) (by simp [Op.operands]) (by simp [Op.operands])]
  | extract x i => unfold trOp; simp only [ho1 (x := x) (by simp [Op.operands])]
  | call c =>
    have h1 := ol_congr (live := live) (live' := live') (d := d) (d' := d') (l := c.args.toList) fun y hy => hc y (by simp [Op.operands, Call.operands]; exact .inr (by simpa using hy))
    unfold trOp
    simp only [h1]
    cases hcc : c.callee with
    | value f =>
      have h2 := hc f (by simp [Op.operands, Call.operands, hcc])
      cases f <;> simp only [h2]
    | invoke r n => rfl
    | builtin b => rfl
  | _ => rfl
end
/-! ### what is read stays when there are new blocks -/
section
variable {call : Call} {D : Dec} {env : TV} {loc : List AV} {h h' : H} {v : AV}
theorem Grown.rows (hg : Grown h h') {p : Ps} {k k' : Bool → List AV → RV} {u : AV} {hh hh' : H} (e : rows h p k = .ok u hh) (hk : ∀ r c, k r c = .ok u hh → k' r c = .ok u hh') : rows h' p k' = .ok u hh' := by
  obtain ⟨ro, cells, h1, h2⟩ := rows_ok e
  have h3 : TB.get p h'.t = .row ro cells := (hg p (by rw [h1]; simp)).trans h1
  unfold SX.rows; rw [h3]; exact hk ro cells h2
theorem Grown.ents (hg : Grown h h') {p : Ps} {k k' : List (AV × AV) → RV} {u : AV} {hh hh' : H} (e : ents h p k = .ok u hh) (hk : ∀ c, k c = .ok u hh → k' c = .ok u hh') : ents h' p k' = .ok u hh' := by
  obtain ⟨es, h1, h2⟩ := ents_ok e
  have h3 : TB.get p h'.t = .map es := (hg p (by rw [h1]; simp)).trans h1
  unfold SX.ents; rw [h3]; exact hk es h2
theorem findE_h {key : AV} {z z' : RV} {k k' : AV → RV} {u : AV} {hh hh' : H} (hz : z = .ok u hh → z' = .ok u hh') (hk : ∀ x, k x = .ok u hh → k' x = .ok u hh') : ∀ {es : List (AV × AV)}, findE D key z k es = .ok u hh → findE D key z' k' es = .ok u hh' := by
  intro es
  induction es with
  | nil => exact hz
  | cons x es ih =>
    obtain ⟨x1, x2⟩ := x
    intro e
    have e' : onStr (fun l c => onStr2 (fun l c m d => ifV D (eqS l c m d) (k x2) (findE D key z k es)) l c x1) key = .ok u hh := e
    show onStr (fun l c => onStr2 (fun l c m d => ifV D (eqS l c m d) (k' x2) (findE D key z' k' es)) l c x1) key = .ok u hh'
    obtain ⟨l, c, h1, e'⟩ := onStr_ok e'
    obtain ⟨l2, c2, h2, e'⟩ := onStr2_ok e'
    subst h2
    have e' : ifV D (eqS l c l2 c2) (k x2) (findE D key z k es) = .ok u hh := e'
    have hgen : ∀ y, key = y → findE D key z' k' es = findE D y z' k' es := fun y hy => by rw [hy]
    have goal' : ifV D (eqS l c l2 c2) (k' x2) (findE D key z' k' es) = .ok u hh' := by
      unfold eqS sbOf at e' ⊢
      cases hb : (Nat.beq l l2 && Nat.beq c c2) with
      | true => rw [hb] at e'; exact hk _ e'
      | false => rw [hb] at e'; exact ih e'
    rw [hgen _ h1] at goal' ⊢
    rw [h1]; exact goal'
theorem read_grown {P : Program} {live : Nat → Bool} {d : Done} {op : Op} {X : XOp} (hg : Grown h h') (hc : cls P op = .read) (ht : trOp P live d op = some X) (e : evalOp X call D env loc h = .ok v h) : evalOp X call D env loc h' = .ok v h' := by
  cases op with
  | load t x =>
    unfold trOp at ht
    simp only at ht
    obtain ⟨n, hn, ht⟩ := bind_inv ht
    cases n with
    | none =>
      obtain ⟨ox, h1, rfl⟩ := o1_inv ht
      obtain ⟨p, o, hv, e⟩ := onPtr_ok e
      show onPtr _ (opd env loc ox) = _
      rw [hv]
      refine hg.rows e fun r c e => ?_
      obtain ⟨h2, e⟩ := bV_yes e
      rw [h2]; show RV.ok _ h' = _; cases e; rfl
    | some n =>
      obtain ⟨ox, h1, rfl⟩ := o1_inv ht
      obtain ⟨p, o, hv, e⟩ := onPtr_ok e
      show onPtr _ (opd env loc ox) = _
      rw [hv]
      refine hg.rows e fun r c e => ?_
      obtain ⟨h2, e⟩ := bV_yes e
      rw [h2]; show RV.ok _ h' = _; cases e; rfl
  | lookup t x i ok =>
    unfold trOp at ht
    simp only at ht
    split at ht
    · split at ht
      · obtain ⟨z, hz, ht⟩ := bind_inv ht
        obtain ⟨ox, oi, h1, h2, rfl⟩ := o2_inv ht
        cases ok with
        | true =>
          rcases onMap_ok e with ⟨b, hv, e⟩ | ⟨hv, e⟩
          · show onMap _ _ (opd env loc ox) = _
            rw [hv]
            exact hg.ents e fun c e => findE_h (fun e => by cases e; rfl) (fun x e => by cases e; rfl) e
          · show onMap _ _ (opd env loc ox) = _
            rw [hv]; cases e; rfl
        | false =>
          rcases onMap_ok e with ⟨b, hv, e⟩ | ⟨hv, e⟩
          · show onMap _ _ (opd env loc ox) = _
            rw [hv]
            exact hg.ents e fun c e => findE_h (fun e => by cases e; rfl) (fun x e => by cases e; rfl) e
          · show onMap _ _ (opd env loc ox) = _
            rw [hv]; cases e; rfl
      · cases ht
    · cases ht
  | convert s t x => simp only [cls] at hc; split at hc <;> cases hc
  | call c =>
    cases hcc : c.callee with
    | builtin b =>
      cases b with
      | len =>
        unfold trOp at ht
        simp only [hcc] at ht
        obtain ⟨as, h1, ht⟩ := bind_inv ht
        match as, ht with
        | [a], ht =>
          simp only at ht
          split at ht
          · cases ht
            rcases onStrX_ok e with ⟨l, c, hv, e⟩ | ⟨p, hv, e⟩
            · show onStrX _ _ (opd env loc a) = _
              rw [hv]; cases e; rfl
            · show onStrX _ _ (opd env loc a) = _
              rw [hv]; cases e; rfl
          · cases ht
            rcases onSlice_ok e with ⟨b, o, s, l, c, x, hv, e⟩ | ⟨hv, e⟩
            · show onSlice _ _ (opd env loc a) = _
              rw [hv]; cases e; rfl
            · show onSlice _ _ (opd env loc a) = _
              rw [hv]; cases e; rfl
          · cases ht
            rcases onMap_ok e with ⟨b, hv, e⟩ | ⟨hv, e⟩
            · show onMap _ _ (opd env loc a) = _
              rw [hv]
              exact hg.ents e fun c e => by cases e; rfl
            · show onMap _ _ (opd env loc a) = _
              rw [hv]; cases e; rfl
          · cases ht; exact bad_no e
        | [], ht => cases ht; exact bad_no e
        | _ :: _ :: _, ht => cases ht; exact bad_no e
      | _ => simp [cls, hcc] at hc
    | _ => simp [cls, hcc] at hc
  | _ => simp [cls] at hc
end
end SX
namespace SX
open Go
set_option linter.unusedVariables false
/-! ### from a translated region to what it comes to -/
section
variable {P : Program} {ρ : Val} {live : Nat → Bool} {env : TV} {ops : List Oper} {A : Nat → Nat → Prop} {val : Nat → AV} {call : Call} {D : Dec} {d : Done} {loc : List AV} {h h' : H} {v : AV} {X : XOp} {m : MM} {a : Act} {w : World} {L : Nat}
theorem tmpsOf_mem {op : Op} {t : Nat} (h : t ∈ tmpsOf op) : Operand.tmp t ∈ op.operands := by
  obtain ⟨y, h1, h2⟩ := List.mem_flatMap.1 h
  cases y with
  | tmp u => simp [opdTmp] at h2; subst h2; simpa using h1
  | _ => simp [opdTmp] at h2
/-- of what is done, what an operation looks at -/
def dFor (op : Op) (d : Done) : Done := ⟨d.l.filter fun e => match e.2.1 with | some t => decide (t ∈ tmpsOf op) | none => false, d.n⟩
def lFor (op : Op) (live : Nat → Bool) : Nat → Bool := fun t => live t && decide (t ∈ tmpsOf op)
theorem findT_for {op : Op} {t : Nat} : ∀ (l : List (Nat × Option Nat × Slot)), findT t (l.filter fun e => match e.2.1 with | some t => decide (t ∈ tmpsOf op) | none => false) = if t ∈ tmpsOf op then findT t l else none := by
  intro l
  induction l with
  | nil => split <;> rfl
  | cons x l ih =>
    obtain ⟨i, dst, s⟩ := x
    cases dst with
    | none => rw [List.filter_cons_of_neg (by simp)]; rw [ih]; split <;> rfl
    | some u =>
      by_cases hu : u ∈ tmpsOf op
      · rw [List.filter_cons_of_pos (by simpa using hu)]
        unfold findT
        cases hb : Nat.beq u t with
        | true =>
          have := Nat.eq_of_beq_eq_true hb; subst this
          rw [if_pos hu]
          rw [if_pos rfl, if_pos rfl]
        | false => exact ih
      · rw [List.filter_cons_of_neg (by simpa using hu), ih]
        by_cases ht : t ∈ tmpsOf op
        · rw [if_pos ht, if_pos ht]
          conv => rhs; unfold findT
          cases hb : Nat.beq u t with
          | true => have := Nat.eq_of_beq_eq_true hb; subst this; exact absurd ht hu
          | false => rfl
        · rw [if_neg ht, if_neg ht]
theorem trOpd_for {op : Op} {y : Operand} (hy : y ∈ op.operands) : trOpd (lFor op live) (dFor op d) y = trOpd live d y := by
  cases y with
  | tmp t =>
    have ht := mem_tmpsOf hy
    unfold trOpd dFor lFor
    simp only [findT_for, if_pos ht, ht, decide_true, Bool.and_true]
    rfl
  | _ => rfl
theorem trOpd_for_tmp {op : Op} {t : Nat} {oy : Opd} (h : trOpd (lFor op live) (dFor op d) (.tmp t) = some oy) : Operand.tmp t ∈ op.operands := by
  by_cases ht : t ∈ tmpsOf op
  · exact tmpsOf_mem ht
  · unfold trOpd dFor lFor at h
    simp only [findT_for, if_neg ht, ht, decide_false, Bool.and_false] at h
    cases h
/-- what the operands of an operation are where it is planned -/
def Seen (live : Nat → Bool) (env : TV) (ops : List Oper) (A : Nat → Nat → Prop) (val : Nat → AV) (d : Done) (loc : List AV) (i : Nat) (op : Op) : Prop :=
  ∀ y ∈ op.operands, ∀ oy, trOpd live d y = some oy → ExpR live env ops A val i y (opd env loc oy)
theorem Seen.opds {i : Nat} {op : Op} (hs : Seen live env ops A val d loc i op) (hR : OpsR ρ live env ops A val m a i op) : OpdsR ρ m (lFor op live) (dFor op d) env loc a := by
  intro y oy hy
  cases y with
  | tmp t =>
    have hm := trOpd_for_tmp hy
    rw [trOpd_for hm] at hy
    exact hR _ hm _ (hs _ hm _ hy)
  | const u =>
    have hy' : (avOf u).map Opd.const = some oy := hy
    cases hu : avOf u with
    | none => rw [hu] at hy'; cases hy'
    | some z => rw [hu] at hy'; cases hy'; exact avOf_ok hu
  | global g => cases hy
  | func f => cases hy; exact V.func_lit m f
theorem WorldG.of_run {o : Oper} (hnd : ∀ c, o.op ≠ .defer c) (hr : WorldR P ρ L m h w o.op o.type a v h') : WorldG P ρ L m h w o a v h' := by
  obtain ⟨m', w', v', nx, h1, h2, h3, h4⟩ := hr
  intro b k cs ops i rest ho hw
  exact ⟨m', w', v', h1, h2, Goes.of_run hnd (h4 o rfl rfl) h3 b k cs ops i rest ho hw⟩
theorem not_defer {op : Op} (ht : trOp P live d op = some X) : ∀ c, op ≠ .defer c := by
  intro c hc; subst hc; cases ht
theorem opR_of {op : Op} {ty : TypeId} (hD : DecOK ρ D) (r : (cls P op).isF = false → Rel P ρ m h w) (hL : L ≤ h.next.toNat) (hop : OpdsR ρ m live d env loc a)
    (ht : trOp P live d op = some X) (e : evalOp X call D env loc h = .ok v h') (hc : ∀ c f, op = .call c → c.callee ≠ .value f) : OpR P ρ L m h w op ty a v h' (cls P op) := by
  cases op with
  | call c =>
    cases hcc : c.callee with
    | value f => exact absurd hcc (hc c f rfl)
    | builtin b => exact op_ok2 hD r hL hop hcc ht e
    | invoke x n =>
      unfold trOp at ht
      simp only [hcc] at ht
      cases ht; exact bad_no e
  | _ => exact op_ok1 hD r hop ht e (fun c h => by cases h)
theorem call_world {c : Go.Call} {f : Operand} {o : Oper} (hcall : CallOK P ρ call) (hoc : o.op = .call c) (hf : c.callee = .value f) (r : Rel P ρ m h w) (hL : L ≤ h.next.toNat) (hop : OpdsR ρ m live d env loc a)
    (ht : trOp P live d o.op = some X) (e : evalOp X call D env loc h = .ok v h') : WorldG P ρ L m h w o a v h' := by
  rw [hoc] at ht
  unfold trOp at ht
  simp only [hf] at ht
  have key : ∀ {fa : AV} {os : List Opd}, call fa (SX.opds env loc os) h = .ok v h' → V ρ m fa (a.eval f) → ol live d c.args.toList = some os → WorldG P ρ L m h w o a v h' := by
    intro fa os e hV hos
    obtain ⟨s, h3, h4⟩ := hcall e r hL hV (avs := c.args.map a.eval) (by rw [Array.toList_map]; exact ol_inv hop hos)
    intro b k cs ops i rest ho hw
    obtain ⟨m', w', v', h1, h2, h5⟩ := h4 (b.atR a (.inRegion ops (i :: rest) :: k)) cs
    exact ⟨m', w', v', h1, h2, go_call hoc hf h3 ho hw h5⟩
  cases f with
  | func f =>
    simp only at ht
    cases hos : ol live d c.args.toList with
    | none => rw [hos] at ht; cases ht
    | some os => rw [hos] at ht; cases ht; exact key e (V.func_lit m f) hos
  | tmp t =>
    simp only at ht
    obtain ⟨g, hg, ht⟩ := bind_inv ht
    cases hos : ol live d c.args.toList with
    | none => rw [hos] at ht; cases ht
    | some os => rw [hos] at ht; cases ht; exact key e (hop _ _ hg) hos
  | const u =>
    simp only at ht
    obtain ⟨g, hg, ht⟩ := bind_inv ht
    cases hos : ol live d c.args.toList with
    | none => rw [hos] at ht; cases ht
    | some os => rw [hos] at ht; cases ht; exact key e (hop _ _ hg) hos
  | global g => simp only [trOpd] at ht; cases ht
/-- the fact of an operation that is done -/
theorem fact_of (hD : DecOK ρ D) (hcall : CallOK P ρ call) {i : Nat} {o : Oper} (hs : Seen live env ops A val d loc i o.op) (hg : ∀ j w, o.guard = some (j, w) → A i j) (hw : Wants ρ ops val o)
    (hx : xok X (cls P o.op) = true) (ht : trOp P live d o.op = some X) (e : evalOp X call D env loc h = .ok (val i) h') : Fact P ρ live env ops A val i o h h' := by
  have ht' : trOp P (lFor o.op live) (dFor o.op d) o.op = some X := (trOp_congr fun y hy => trOpd_for hy).trans ht
  refine ⟨not_defer ht, hg, .inr ⟨hw, ?_⟩⟩
  have hnc : cls P o.op ≠ .world → ∀ c f, o.op = .call c → c.callee ≠ .value f := fun hc c f hoc hcf => hc (by rw [hoc]; simp [cls, hcf])
  have hxc := xcls_of hx e
  cases hc : cls P o.op with
  | pure =>
    rw [hc] at hxc
    have hh : h' = h := calm_ends (.inl hxc) _ _ e
    refine ⟨hh, fun m a hR => ?_⟩
    have := opR_of (w := default) (L := 0) (ty := o.type) hD (fun h => by rw [hc] at h; cases h) (Nat.zero_le _) (hs.opds hR) ht' e (hnc (by rw [hc]; simp))
    rw [hc] at this; exact this.2
  | read =>
    rw [hc] at hxc
    have hh : h' = h := calm_ends (.inr hxc) _ _ e
    subst hh
    refine ⟨rfl, fun h'' hgr m a w r hR => ?_⟩
    have := opR_of (L := 0) (ty := o.type) hD (fun _ => r) (Nat.zero_le _) (hs.opds hR) ht' (read_grown hgr hc ht' e) (hnc (by rw [hc]; simp))
    rw [hc] at this; exact this.2
  | alloc =>
    rw [hc] at hxc
    obtain ⟨B, hh⟩ := alloc_ends hxc _ _ e
    refine ⟨B, hh, fun m a hR => ?_⟩
    have := opR_of (w := default) (L := 0) (ty := o.type) hD (fun h => by rw [hc] at h; cases h) (Nat.zero_le _) (hs.opds hR) ht' e (hnc (by rw [hc]; simp))
    rw [hc] at this
    obtain ⟨B', hh', hal⟩ := this
    have hBB : B' = B := by
      have h1 : TB.get h.next (h.alloc B').t = TB.get h.next (h.alloc B).t := by rw [← hh', ← hh]
      rwa [H.alloc_get, if_pos rfl, H.alloc_get, if_pos rfl] at h1
    rw [← hBB]; exact hal
  | world =>
    intro m a w L r hL hR
    by_cases hcf : ∃ c f, o.op = .call c ∧ c.callee = .value f
    · obtain ⟨c, f, h1, h2⟩ := hcf
      exact call_world hcall h1 h2 r hL (hs.opds hR) ht' e
    · have := opR_of (ty := o.type) hD (fun _ => r) hL (hs.opds hR) ht' e (fun c f h1 h2 => hcf ⟨c, f, h1, h2⟩)
      rw [hc] at this
      exact WorldG.of_run (not_defer ht) this
/-- a move -/
theorem isMove_inv {op : Op} {x : Operand} (h : isMove op = some x) : op = .move x ∨ op = .assign x := by
  cases op <;> first | (cases h; first | exact .inl rfl | exact .inr rfl) | cases h
theorem fact_move {i : Nat} {o : Oper} {x : Operand} {ox : Opd} (hs : Seen live env ops A val d loc i o.op) (hg : ∀ j w, o.guard = some (j, w) → A i j) (hw : Wants ρ ops val o)
    (hm : isMove o.op = some x) (ht : trOpd live d x = some ox) (hv : val i = opd env loc ox) : Fact P ρ live env ops A val i o h h := by
  have hx : x ∈ o.op.operands := by rcases isMove_inv hm with h | h <;> rw [h] <;> simp [Op.operands]
  have hc : cls P o.op = .pure := by rcases isMove_inv hm with h | h <;> rw [h] <;> rfl
  refine ⟨fun c h => (by rcases isMove_inv hm with h' | h' <;> (rw [h] at h'; cases h')), hg, .inr ⟨hw, ?_⟩⟩
  rw [hc]
  refine ⟨rfl, fun m a hR => ⟨a.eval x, ?_, fun y w h1 _ => ?_⟩⟩
  · rw [hv]; exact hR x hx _ (hs x hx ox ht)
  · rcases isMove_inv hm with h | h <;> rw [h] at h1 <;> simp [execOp, h1]
end
end SX
namespace SX
open Go
set_option linter.unusedVariables false
section
variable {P : Program} {ρ : Val} {live : Nat → Bool} {env : TV} {ops : List Oper} {A : Nat → Nat → Prop} {call : Call} {D : Dec}
theorem okI_inv {k : AV → H → RI} {r : RV} {l : List AV} {hh : H} (e : okI k r = .ok l hh) : ∃ v h, r = .ok v h ∧ k v h = .ok l hh := by
  cases r with
  | ok v h => exact ⟨v, h, rfl, e⟩
  | fail => have e' : RI.fail = RI.ok l hh := e; cases e'
  | need a b c => have e' : RI.need a b c = RI.ok l hh := e; cases e'
theorem onBoolI_inv {z : RI} {k : SB → RI} {v : AV} {l : List AV} {hh : H} (e : onBoolI z k v = .ok l hh) : (∃ s, v = .bool s ∧ k s = .ok l hh) ∨ (∃ vs, v = .tup vs ∧ z = .ok l hh) := by
  cases v with
  | bool s => exact .inl ⟨s, rfl, e⟩
  | tup vs => exact .inr ⟨vs, rfl, e⟩
  | _ => have e' : RI.fail = RI.ok l hh := e; cases e'
/-- the slot of an operation by its place -/
def Slot.okay (n : Nat) : Slot → Prop
  | .at k => k < n
  | .opd (.loc _) => False
  | .opd _ => True
def slotVal (env : TV) (loc : List AV) (n : Nat) (s : Slot) : AV := opd env loc (s.opdAt n)
theorem slotVal_cons {loc : List AV} {n : Nat} {s : Slot} (hs : s.okay n) (v : AV) : slotVal env (v :: loc) (n + 1) s = slotVal env loc n s := by
  cases s with
  | «at» k =>
    have hk : k < n := hs
    show getL (v :: loc) (n + 1 - 1 - k) = getL loc (n - 1 - k)
    have : n + 1 - 1 - k = (n - 1 - k) + 1 := by omega
    rw [this]; rfl
  | opd o => cases o with
    | loc i => exact hs.elim
    | env p => rfl
    | const c => rfl
theorem Slot.okay_succ {n : Nat} {s : Slot} (hs : s.okay n) : s.okay (n + 1) := by
  cases s with
  | «at» k => exact Nat.lt_succ_of_lt hs
  | opd o => cases o <;> first | exact hs | exact hs.elim
/-- what is done so far -/
structure DInv (ops : List Oper) (d : Done) (loc : List AV) (dn : Nat → Prop) : Prop where
  len : loc.length = d.n
  mem : ∀ j, dn j → ∃ s, findI j d.l = some s
  all : ∀ j t s, (j, t, s) ∈ d.l → dn j ∧ s.okay d.n ∧ (∃ oj, ops[j]? = some oj ∧ oj.dst = t) ∧ findI j d.l = some s
theorem findI_mem {j : Nat} : ∀ {l : List (Nat × Option Nat × Slot)} {s : Slot}, findI j l = some s → ∃ t, (j, t, s) ∈ l := by
  intro l
  induction l with
  | nil => intro s h; cases h
  | cons x l ih =>
    obtain ⟨i, t, u⟩ := x
    intro s h
    unfold findI at h
    split at h
    · rename_i hb
      have := Nat.eq_of_beq_eq_true hb; subst this
      cases h; exact ⟨t, List.mem_cons_self ..⟩
    · obtain ⟨t', h'⟩ := ih h; exact ⟨t', List.mem_cons_of_mem _ h'⟩
theorem findT_mem {t : Nat} : ∀ {l : List (Nat × Option Nat × Slot)} {s : Slot}, findT t l = some s → ∃ j, (j, some t, s) ∈ l := by
  intro l
  induction l with
  | nil => intro s h; cases h
  | cons x l ih =>
    obtain ⟨i, dst, u⟩ := x
    intro s h
    cases dst with
    | none => unfold findT at h; obtain ⟨j, h'⟩ := ih h; exact ⟨j, List.mem_cons_of_mem _ h'⟩
    | some w =>
      unfold findT at h
      split at h
      · rename_i hb
        have := Nat.eq_of_beq_eq_true hb; subst this
        cases h; exact ⟨i, List.mem_cons_self ..⟩
      · obtain ⟨j, h'⟩ := ih h; exact ⟨j, List.mem_cons_of_mem _ h'⟩
theorem findT_none {t : Nat} : ∀ {l : List (Nat × Option Nat × Slot)}, findT t l = none → ∀ j s, (j, some t, s) ∉ l := by
  intro l
  induction l with
  | nil => intro _ j s h; cases h
  | cons x l ih =>
    obtain ⟨i, dst, u⟩ := x
    intro h j s hm
    cases dst with
    | none =>
      unfold findT at h
      rcases List.mem_cons.1 hm with hm | hm
      · cases hm
      · exact ih h j s hm
    | some w =>
      unfold findT at h
      split at h
      · cases h
      · rename_i hb
        rcases List.mem_cons.1 hm with hm | hm
        · cases hm; exact hb (Nat.beq_refl _)
        · exact ih h j s hm
theorem DInv.add {d : Done} {loc : List AV} {dn : Nat → Prop} (I : DInv ops d loc dn) {i : Nat} {o : Oper} (ho : ops[i]? = some o) (hn : ¬ dn i) {s : Slot} {n : Nat} {loc' : List AV} (hl : loc'.length = n) (hs : s.okay n) (hle : ∀ u : Slot, u.okay d.n → u.okay n) :
    DInv ops ⟨(i, o.dst, s) :: d.l, n⟩ loc' (fun j => dn j ∨ j = i) where
  len := hl
  mem j hj := by
    show ∃ u, findI j ((i, o.dst, s) :: d.l) = some u
    unfold findI
    by_cases hij : Nat.beq i j = true
    · rw [if_pos hij]; exact ⟨s, rfl⟩
    · rw [if_neg hij]
      exact I.mem j (hj.resolve_right fun h => hij (by rw [h]; exact Nat.beq_refl _))
  all j t u hm := by
    rcases List.mem_cons.1 hm with hm | hm
    · cases hm
      refine ⟨.inr rfl, hs, ⟨o, ho, rfl⟩, ?_⟩
      show findI i ((i, o.dst, s) :: d.l) = some s
      unfold findI; rw [if_pos (Nat.beq_refl _)]
    · obtain ⟨h1, h2, h3, h4⟩ := I.all j t u hm
      refine ⟨.inl h1, hle u h2, h3, ?_⟩
      show findI j ((i, o.dst, s) :: d.l) = some u
      unfold findI
      rw [if_neg (fun hb => hn (by rw [Nat.eq_of_beq_eq_true hb]; exact h1))]
      exact h4
/-- what an item of a plan comes to -/
inductive ItemR (P : Program) (live : Nat → Bool) (env : TV) (ops : List Oper) (call : Call) (D : Dec) (i : Nat) (o : Oper) (d : Done) (loc : List AV) (h : H) : Done → List AV → H → Prop
  | move {x : Operand} {ox : Opd} (hg : o.guard = none) (hm : isMove o.op = some x) (ht : trOpd live d x = some ox) :
      ItemR P live env ops call D i o d loc h ⟨(i, o.dst, moveSlot d.n ox) :: d.l, d.n⟩ loc h
  | op {X : XOp} {v : AV} {h' : H} (hg : o.guard = none) (hx : xok X (cls P o.op) = true) (ht : trOp P live d o.op = some X) (e : evalOp X call D env loc h = .ok v h') :
      ItemR P live env ops call D i o d loc h ⟨(i, o.dst, .at d.n) :: d.l, d.n + 1⟩ (v :: loc) h'
  | yes {j : Nat} {w : Bool} {s : Slot} {sb : SB} {v : AV} {h' : H} (hg : o.guard = some (j, w)) (hj : ∃ oj t, ops[j]? = some oj ∧ oj.dst = some t) (hf : findI j d.l = some s) (hv : slotVal env loc d.n s = .bool sb)
      (hb : (∃ x ox, isMove o.op = some x ∧ trOpd live d x = some ox ∧ v = opd env loc ox ∧ h' = h) ∨ ∃ X, xok X (cls P o.op) = true ∧ trOp P live d o.op = some X ∧ evalOp X call D env loc h = .ok v h') (hd : ∀ ρ, DecOK ρ D → sb.den ρ = w) :
      ItemR P live env ops call D i o d loc h ⟨(i, o.dst, .at d.n) :: d.l, d.n + 1⟩ (v :: loc) h'
  | no {j : Nat} {w : Bool} {s : Slot} (hnd : ∀ c, o.op ≠ .defer c) (hg : o.guard = some (j, w)) (hj : ∃ oj t, ops[j]? = some oj ∧ oj.dst = some t) (hf : findI j d.l = some s) 
      (hv : (∃ vs, slotVal env loc d.n s = .tup vs) ∨ ∃ sb, slotVal env loc d.n s = .bool sb ∧ ∀ ρ, DecOK ρ D → sb.den ρ ≠ w) :
      ItemR P live env ops call D i o d loc h ⟨(i, o.dst, .at d.n) :: d.l, d.n + 1⟩ (undefV :: loc) h
theorem dst_some {j : Nat} {t : Nat} (h : (ops[j]?).bind (·.dst) = some t) : ∃ oj t, ops[j]? = some oj ∧ oj.dst = some t := by
  obtain ⟨oj, h1, h2⟩ := bind_inv h; exact ⟨oj, t, h1, h2⟩
/-- the first item of a plan -/
theorem item_inv {i : Nat} {rest : List (Nat × Bool)} {d d' : Done} {loc loc' : List AV} {h h' : H} {items : List XItem} (ht : trItems P live ops ((i, false) :: rest) d = some (items, d'))
    (e : doItems items call D env loc h = .ok loc' h') : ∃ o d₁ loc₁ h₁ items₁, ops[i]? = some o ∧ ItemR P live env ops call D i o d loc h d₁ loc₁ h₁ ∧ trItems P live ops rest d₁ = some (items₁, d') ∧ doItems items₁ call D env loc₁ h₁ = .ok loc' h' := by
  unfold trItems at ht
  obtain ⟨o, ho, ht⟩ := bind_inv ht
  simp only at ht
  -- an operation, or a move under a guard
  have gen : ∀ (g : Option (Nat × Bool)), o.guard = g → (g = none → isMove o.op = none) →
      ((match isMove o.op with | some a => (trOpd live d a).map XOp.mv | none => trOp P live d o.op).bind fun x =>
        match xok x (cls P o.op) with
        | false => none
        | true =>
        let d' : Done := ⟨(i, o.dst, .at d.n) :: d.l, d.n + 1⟩
        match g with
        | none => (trItems P live ops rest d').map fun (l, r) => (XItem.op x :: l, r)
        | some (j, w) => match (ops[j]?).bind (·.dst) with
          | none => none
          | some _ => (findI j d.l).bind fun s => (trItems P live ops rest d').map fun (l, r) => (.gop (s.opdAt d.n) w x :: l, r)) = some (items, d') →
      ∃ d₁ loc₁ h₁ items₁, ItemR P live env ops call D i o d loc h d₁ loc₁ h₁ ∧ trItems P live ops rest d₁ = some (items₁, d') ∧ doItems items₁ call D env loc₁ h₁ = .ok loc' h' := by
    intro g hg hgm ht
    obtain ⟨X, hX, ht⟩ := bind_inv ht
    split at ht
    · cases ht
    · rename_i hxok
      cases g with
      | none =>
        simp only at ht
        rw [hgm rfl] at hX
        cases hr : trItems P live ops rest ⟨(i, o.dst, .at d.n) :: d.l, d.n + 1⟩ with
        | none => rw [hr] at ht; cases ht
        | some r =>
          obtain ⟨l, r⟩ := r
          rw [hr] at ht; cases ht
          obtain ⟨v, h₁, e1, e2⟩ := okI_inv e
          exact ⟨_, _, _, l, .op hg hxok hX e1, hr, e2⟩
      | some jw =>
        obtain ⟨j, w⟩ := jw
        simp only at ht
        cases hdj : (ops[j]?).bind (·.dst) with
        | none => rw [hdj] at ht; cases ht
        | some t =>
          rw [hdj] at ht
          simp only at ht
          obtain ⟨s, hs, ht⟩ := bind_inv ht
          cases hr : trItems P live ops rest ⟨(i, o.dst, .at d.n) :: d.l, d.n + 1⟩ with
          | none => rw [hr] at ht; cases ht
          | some r =>
            obtain ⟨l, r⟩ := r
            rw [hr] at ht; cases ht
            have hdo : ∀ {v h₁}, evalOp X call D env loc h = .ok v h₁ → (∃ x ox, isMove o.op = some x ∧ trOpd live d x = some ox ∧ v = opd env loc ox ∧ h₁ = h) ∨ ∃ X, xok X (cls P o.op) = true ∧ trOp P live d o.op = some X ∧ evalOp X call D env loc h = .ok v h₁ := by
              intro v h₁ e1
              cases hm : isMove o.op with
              | none => rw [hm] at hX; exact .inr ⟨X, hxok, hX, e1⟩
              | some x =>
                rw [hm] at hX
                simp only at hX
                cases hx : trOpd live d x with
                | none => rw [hx] at hX; cases hX
                | some ox => rw [hx] at hX; cases hX; cases e1; exact .inl ⟨x, ox, rfl, hx, rfl, rfl⟩
            have hnd : ∀ c, o.op ≠ .defer c := by
              intro c hc
              rw [hc] at hX
              cases hX
            have doit : ∀ sb, slotVal env loc d.n s = .bool sb → (∀ ρ, DecOK ρ D → sb.den ρ = w) → doOp X (doItems l) call D env loc h = .ok loc' h' →
                ∃ d₁ loc₁ h₁ items₁, ItemR P live env ops call D i o d loc h d₁ loc₁ h₁ ∧ trItems P live ops rest d₁ = some (items₁, r) ∧ doItems items₁ call D env loc₁ h₁ = .ok loc' h' := fun sb hv hd e => by
              obtain ⟨v, h₁, e1, e2⟩ := okI_inv e
              exact ⟨_, _, _, l, .yes hg (dst_some hdj) hs hv (hdo e1) hd, hr, e2⟩
            have skip : ((∃ vs, slotVal env loc d.n s = .tup vs) ∨ ∃ sb, slotVal env loc d.n s = .bool sb ∧ ∀ ρ, DecOK ρ D → sb.den ρ ≠ w) → skipOp (doItems l) call D env loc h = .ok loc' h' →
                ∃ d₁ loc₁ h₁ items₁, ItemR P live env ops call D i o d loc h d₁ loc₁ h₁ ∧ trItems P live ops rest d₁ = some (items₁, r) ∧ doItems items₁ call D env loc₁ h₁ = .ok loc' h' := fun hv e =>
              ⟨_, _, _, l, .no hnd hg (dst_some hdj) hs hv, hr, e⟩
            rcases onBoolI_inv e with ⟨sb, hv, e⟩ | ⟨vs, hv, e⟩
            · have hcase : (∀ ρ, DecOK ρ D → sb.den ρ = true) ∧ pickI w (doOp X (doItems l) call D env loc h) (skipOp (doItems l) call D env loc h) = .ok loc' h' ∨
                  (∀ ρ, DecOK ρ D → sb.den ρ = false) ∧ pickI w (skipOp (doItems l) call D env loc h) (doOp X (doItems l) call D env loc h) = .ok loc' h' := by
                cases sb with
                | t => exact .inl ⟨fun _ _ => rfl, e⟩
                | f => exact .inr ⟨fun _ _ => rfl, e⟩
                | cmp p r a b =>
                  have e' : (match findD r a b D with | some v => (match v == p with | true => _ | false => _) | none => RI.need r a b) = .ok loc' h' := e
                  cases hf : findD r a b D with
                  | none => rw [hf] at e'; cases e'
                  | some u =>
                    rw [hf] at e'
                    have hden : ∀ ρ, DecOK ρ D → (SB.cmp p r a b).den ρ = (u == p) := fun ρ hρ => by
                      show (r.test (a.den ρ) (b.den ρ) == p) = (u == p)
                      rw [findD_ok hρ hf]
                    cases hup : (u == p) with
                    | true => simp only [hup] at e'; exact .inl ⟨fun ρ hρ => (hden ρ hρ).trans hup, e'⟩
                    | false => simp only [hup] at e'; exact .inr ⟨fun ρ hρ => (hden ρ hρ).trans hup, e'⟩
              rcases hcase with ⟨hd, e⟩ | ⟨hd, e⟩
              · cases w with
                | true => exact doit sb hv hd e
                | false => exact skip (.inr ⟨sb, hv, fun ρ hρ h => by rw [hd ρ hρ] at h; cases h⟩) e
              · cases w with
                | true => exact skip (.inr ⟨sb, hv, fun ρ hρ h => by rw [hd ρ hρ] at h; cases h⟩) e
                | false => exact doit sb hv hd e
            · exact skip (.inl ⟨vs, hv⟩) e
  split at ht
  · rename_i x hg hm
    obtain ⟨ox, hox, ht⟩ := bind_inv ht
    exact ⟨o, _, _, _, items, ho, .move hg hm hox, ht, e⟩
  · rename_i g hno
    obtain ⟨d₁, loc₁, h₁, items₁, h1, h2, h3⟩ := gen _ rfl (fun hg => by
      cases hm : isMove o.op with
      | none => rfl
      | some x => exact absurd hm (hno x hg)) ht
    exact ⟨o, d₁, loc₁, h₁, items₁, ho, h1, h2, h3⟩
theorem again_inv {i : Nat} {rest : List (Nat × Bool)} {d d' : Done} {loc loc' : List AV} {h h' : H} {items : List XItem} (ht : trItems P live ops ((i, true) :: rest) d = some (items, d'))
    (e : doItems items call D env loc h = .ok loc' h') : ∃ o X v h₁ s items₁, ops[i]? = some o ∧ findI i d.l = some s ∧ trOp P live d o.op = some X ∧ xok X (cls P o.op) = true ∧ evalOp X call D env loc h = .ok v h₁ ∧ avEq v (slotVal env loc d.n s) = true ∧
      trItems P live ops rest d = some (items₁, d') ∧ doItems items₁ call D env loc h = .ok loc' h' := by
  unfold trItems at ht
  obtain ⟨o, ho, ht⟩ := bind_inv ht
  simp only at ht
  obtain ⟨s, hs, ht⟩ := bind_inv ht
  split at ht
  · rename_i k hk
    obtain ⟨X, hX, ht⟩ := bind_inv ht
    split at ht
    case h_2 => cases ht
    rename_i hxok
    cases hr : trItems P live ops rest d with
    | none => rw [hr] at ht; cases ht
    | some r =>
      obtain ⟨l, r⟩ := r
      rw [hr] at ht; cases ht
      obtain ⟨v, h₁, e1, e2⟩ := okI_inv e
      cases hb : avEq v (getL loc k) with
      | true =>
        rw [hb] at e2
        refine ⟨o, X, v, h₁, s, l, ho, hs, hX, hxok, e1, ?_, rfl, e2⟩
        unfold slotVal; rw [hk]; exact hb
      | false => rw [hb] at e2; have e2' : RI.fail = RI.ok loc' h' := e2; cases e2'
  · cases ht
end
end SX
namespace SX
open Go
set_option linter.unusedVariables false
/-! ### two abstract values held against one another -/
theorem kindBeq_eq {k l : IntKind} (h : kindBeq k l = true) : k = l := by cases k <;> cases l <;> first | rfl | cases h
theorem opBeq_eq {k l : BinOp} (h : opBeq k l = true) : k = l := by cases k <;> cases l <;> first | rfl | cases h
mutual
theorem avEq_eq : ∀ (a b : AV), avEq a b = true → a = b
  | .bool s, b, h => by cases s <;> cases b <;> first | (rename_i r; cases r <;> simp [avEq] at h; rfl) | (simp [avEq] at h)
  | .int k n, b, h => by
    cases b <;> simp [avEq] at h
    rw [kindBeq_eq h.1, SI.beq_eq h.2]
  | .str l c, b, h => by cases b <;> simp [avEq] at h; rw [h.1, h.2]
  | .sx i, b, h => by cases b <;> simp [avEq] at h; rw [SS.beq_eq h]
  | .sym i, b, h => by cases b <;> simp [avEq] at h; rw [h]
  | .ptr p o, b, h => by cases b <;> simp [avEq] at h; rw [(Ps.beq_iff _ _).1 h.1, h.2]
  | .nilp, b, h => by cases b <;> simp [avEq] at h; rfl
  | .slice p o s l c x, b, h => by
    cases b <;> simp [avEq] at h
    obtain ⟨⟨⟨⟨⟨h1, h2⟩, h3⟩, h4⟩, h5⟩, h6⟩ := h
    rw [(Ps.beq_iff _ _).1 h1, h2, h3, h4, h5, h6]
  | .nils, b, h => by cases b <;> simp [avEq] at h; rfl
  | .map p, b, h => by cases b <;> simp [avEq] at h; rw [(Ps.beq_iff _ _).1 h]
  | .nilm, b, h => by cases b <;> simp [avEq] at h; rfl
  | .func f x y, b, h => by
    cases b <;> simp [avEq] at h
    rw [h.1.1, avEqs_eq _ _ h.1.2, avEqs_eq _ _ h.2]
  | .yield p, b, h => by cases b <;> simp [avEq] at h; rw [(Ps.beq_iff _ _).1 h]
  | .nilf, b, h => by cases b <;> simp [avEq] at h; rfl
  | .iface t x, b, h => by
    cases b <;> simp [avEq] at h
    rw [h.1, avEq_eq _ _ h.2]
  | .nili, b, h => by cases b <;> simp [avEq] at h; rfl
  | .agg x, b, h => by
    cases b <;> simp [avEq] at h
    rw [avEqs_eq _ _ h]
  | .tup x, b, h => by
    cases b <;> simp [avEq] at h
    rw [avEqs_eq _ _ h]
  | .unk, b, h => by cases b <;> simp [avEq] at h
  | .bot, b, h => by cases b <;> simp [avEq] at h
theorem avEqs_eq : ∀ (a b : List AV), avEqs a b = true → a = b
  | [], b, h => by cases b <;> simp [avEqs] at h; rfl
  | x :: a, b, h => by
    cases b with
    | nil => simp [avEqs] at h
    | cons y b =>
      simp only [avEqs, Bool.and_eq_true] at h
      rw [avEq_eq _ _ h.1, avEqs_eq _ _ h.2]
end
section
variable {P : Program} {ρ : Val} {live : Nat → Bool} {env : TV} {ops : List Oper} {A : Nat → Nat → Prop} {call : Call} {D : Dec}
theorem moveSlot_okay {d : Done} {loc : List AV} {dn : Nat → Prop} (I : DInv ops d loc dn) {x : Operand} {ox : Opd} (ht : trOpd live d x = some ox) :
    (moveSlot d.n ox).okay d.n ∧ slotVal env loc d.n (moveSlot d.n ox) = opd env loc ox := by
  cases x with
  | tmp t =>
    simp only [trOpd] at ht
    cases hf : findT t d.l with
    | some s =>
      rw [hf] at ht; cases ht
      obtain ⟨j, hj⟩ := findT_mem hf
      obtain ⟨_, hs, _⟩ := I.all j _ s hj
      cases s with
      | «at» k =>
        have hk : k < d.n := hs
        refine ⟨(by show d.n - 1 - (d.n - 1 - k) < d.n; omega), ?_⟩
        show getL loc (d.n - 1 - (d.n - 1 - (d.n - 1 - k))) = getL loc (d.n - 1 - k)
        congr 1; omega
      | opd o => cases o with
        | loc i => exact hs.elim
        | env p => exact ⟨trivial, rfl⟩
        | const c => exact ⟨trivial, rfl⟩
    | none =>
      rw [hf] at ht
      simp only at ht
      split at ht
      · cases ht; exact ⟨trivial, rfl⟩
      · cases ht
  | const v =>
    have ht' : (avOf v).map Opd.const = some ox := ht
    cases hv : avOf v with
    | none => rw [hv] at ht'; cases ht'
    | some z => rw [hv] at ht'; cases ht'; exact ⟨trivial, rfl⟩
  | global g => cases ht
  | func f => cases ht; exact ⟨trivial, rfl⟩
theorem findI_cons_ne {i j : Nat} {t : Option Nat} {s : Slot} {l : List (Nat × Option Nat × Slot)} (h : i ≠ j) : findI j ((i, t, s) :: l) = findI j l := by
  show (if Nat.beq i j then some s else findI j l) = findI j l
  rw [if_neg (fun hb => h (Nat.eq_of_beq_eq_true hb))]
theorem findI_cons_eq {i : Nat} {t : Option Nat} {s : Slot} {l : List (Nat × Option Nat × Slot)} : findI i ((i, t, s) :: l) = some s := by
  show (if Nat.beq i i then some s else findI i l) = some s
  rw [if_pos (Nat.beq_refl _)]
/-- what is kept from item to item -/
def Kept (env : TV) (d : Done) (loc : List AV) (dn : Nat → Prop) (d' : Done) (loc' : List AV) : Prop :=
  ∀ j s, dn j → findI j d.l = some s → findI j d'.l = some s ∧ slotVal env loc' d'.n s = slotVal env loc d.n s
theorem ItemR.dinv {i : Nat} {o : Oper} {d d₁ : Done} {loc loc₁ : List AV} {h h₁ : H} {dn : Nat → Prop} (r : ItemR P live env ops call D i o d loc h d₁ loc₁ h₁) (I : DInv ops d loc dn) (ho : ops[i]? = some o) (hn : ¬ dn i) :
    DInv ops d₁ loc₁ (fun j => dn j ∨ j = i) ∧ Kept env d loc dn d₁ loc₁ := by
  have hne : ∀ j, dn j → i ≠ j := fun j hj h => hn (h ▸ hj)
  have push : ∀ v : AV, DInv ops ⟨(i, o.dst, .at d.n) :: d.l, d.n + 1⟩ (v :: loc) (fun j => dn j ∨ j = i) ∧ Kept env d loc dn ⟨(i, o.dst, .at d.n) :: d.l, d.n + 1⟩ (v :: loc) := fun v =>
    ⟨I.add ho hn (by simp [I.len]) (Nat.lt_succ_self _) (fun u hu => Slot.okay_succ hu), fun j s hj hs => by
      obtain ⟨t, hm⟩ := findI_mem hs
      exact ⟨(findI_cons_ne (hne j hj)).trans hs, slotVal_cons (I.all j t s hm).2.1 v⟩⟩
  cases r with
  | move hg hm ht => exact ⟨I.add ho hn I.len (moveSlot_okay (env := env) I ht).1 (fun u hu => hu), fun j s hj hs => ⟨(findI_cons_ne (hne j hj)).trans hs, rfl⟩⟩
  | op hg hx ht e => exact push _
  | yes hg hj hf hv hb hd => exact push _
  | no hnd hg hj hf hv => exact push _
theorem keeps : ∀ {pl : List (Nat × Bool)} {d d' : Done} {loc loc' : List AV} {h h' : H} {dn ws st : Nat → Prop} {items : List XItem}, PlanOK P ops A pl dn ws st → trItems P live ops pl d = some (items, d') →
    doItems items call D env loc h = .ok loc' h' → DInv ops d loc dn → Kept env d loc dn d' loc' ∧ DInv ops d' loc' (fun j => j < ops.length) := by
  intro pl
  induction pl with
  | nil =>
    intro d d' loc loc' h h' dn ws st items hok ht e I
    cases ht; cases e
    refine ⟨fun j s hj hs => ⟨hs, rfl⟩, ⟨I.len, fun j hj => I.mem j (hok.2 j hj), fun j t s hm => ?_⟩⟩
    obtain ⟨h1, h2, ⟨oj, h3, h4⟩, h5⟩ := I.all j t s hm
    exact ⟨(List.getElem?_eq_some_iff.1 h3).1, h2, ⟨oj, h3, h4⟩, h5⟩
  | cons x pl ih =>
    obtain ⟨i, again⟩ := x
    intro d d' loc loc' h h' dn ws st items hok ht e I
    cases again with
    | true =>
      obtain ⟨o, X, v, h₁, s, items₁, ho, hs, hX, hxok, e1, heq, ht', e'⟩ := again_inv ht e
      obtain ⟨o', _, _, _, _, hok⟩ := hok
      exact ih hok ht' e' I
    | false =>
      obtain ⟨o, d₁, loc₁, h₁, items₁, ho, r, ht', e'⟩ := item_inv ht e
      obtain ⟨o', ho', hn, _, _, _, _, _, hok⟩ := hok
      rw [ho] at ho'; cases ho'
      obtain ⟨I₁, hk⟩ := r.dinv I ho hn
      obtain ⟨hk', I'⟩ := ih hok ht' e' I₁
      refine ⟨fun j s hj hs => ?_, I'⟩
      obtain ⟨h1, h2⟩ := hk j s hj hs
      obtain ⟨h3, h4⟩ := hk' j s (.inl hj) h1
      exact ⟨h3, h4.trans h2⟩
/-- the value of an operation at the end -/
def valOf (env : TV) (d : Done) (loc : List AV) (j : Nat) : AV := match findI j d.l with | some s => slotVal env loc d.n s | none => .bot
theorem seen_new {val : Nat → AV} {d : Done} {loc : List AV} {dn : Nat → Prop} (I : DInv ops d loc dn) (hval : ∀ j s, dn j → findI j d.l = some s → val j = slotVal env loc d.n s) {i : Nat} {op : Op}
    (hA : ∀ j, A i j → dn j) (hfit : ∀ t, Operand.tmp t ∈ op.operands → ∀ j oj, ops[j]? = some oj → oj.dst = some t → dn j → A i j) : Seen live env ops A val d loc i op := by
  intro y hy oy ht
  cases y with
  | tmp t =>
    simp only [trOpd] at ht
    cases hf : findT t d.l with
    | some s =>
      rw [hf] at ht; cases ht
      obtain ⟨j, hj⟩ := findT_mem hf
      obtain ⟨h1, h2, ⟨oj, h3, h4⟩, h5⟩ := I.all j _ s hj
      exact .inl ⟨j, oj, hfit t hy j oj h3 h4 h1, h3, h4, (hval j s h1 h5).symm⟩
    | none =>
      rw [hf] at ht
      simp only at ht
      split at ht
      · rename_i hl
        cases ht
        refine .inr ⟨fun j oj hAj hoj hdj => ?_, hl, rfl⟩
        obtain ⟨s, hs⟩ := I.mem j (hA j hAj)
        obtain ⟨t', hm⟩ := findI_mem hs
        obtain ⟨_, _, ⟨oj', h3, h4⟩, _⟩ := I.all j t' s hm
        rw [hoj] at h3; cases h3
        rw [← h4, hdj] at hm
        exact findT_none hf j s hm
      · cases ht
  | const v =>
    have ht' : (avOf v).map Opd.const = some oy := ht
    cases hv : avOf v with
    | none => rw [hv] at ht'; cases ht'
    | some z => rw [hv] at ht'; cases ht'; exact hv
  | global g => cases ht
  | func f => cases ht; rfl
theorem sem_of (hD : DecOK ρ D) (hcall : CallOK P ρ call) {d' : Done} {loc' : List AV} {h' : H} : ∀ {pl : List (Nat × Bool)} {d : Done} {loc : List AV} {h : H} {dn ws st : Nat → Prop} {items : List XItem},
    PlanOK P ops A pl dn ws st → trItems P live ops pl d = some (items, d') → doItems items call D env loc h = .ok loc' h' → DInv ops d loc dn →
    (∀ j s, dn j → findI j d.l = some s → valOf env d' loc' j = slotVal env loc d.n s) → (∀ j k, dn j → A j k → dn k) → SemRun P ρ live env ops A (valOf env d' loc') pl h h' := by
  intro pl
  induction pl with
  | nil =>
    intro d loc h dn ws st items hok ht e I hval hcl
    cases ht; cases e; rfl
  | cons x pl ih =>
    obtain ⟨i, again⟩ := x
    intro d loc h dn ws st items hok ht e I hval hcl
    cases again with
    | true =>
      obtain ⟨o, X, v, h₁, s, items₁, ho, hs, hX, hxok, e1, heq, ht', e'⟩ := again_inv ht e
      obtain ⟨o', ho', hdi, hc, hag, hok⟩ := hok
      rw [ho] at ho'; cases ho'
      refine ⟨fun o'' ho'' hw h'' hgr m a w r hR => ?_, ih hok ht' e' I hval hcl⟩
      rw [ho] at ho''; cases ho''
      have hv : v = valOf env d' loc' i := by rw [hval i s hdi hs]; exact avEq_eq _ _ heq
      subst hv
      have hxc := xcls_of hxok e1
      rw [hc] at hxc
      have hh : h₁ = h := calm_ends (.inr hxc) _ _ e1
      subst hh
      have hseen : Seen live env ops A (valOf env d' loc') d loc i o.op := seen_new I hval (fun j hj => hcl i j hdi hj) hag
      have htr : trOp P (lFor o.op live) (dFor o.op d) o.op = some X := (trOp_congr fun y hy => trOpd_for hy).trans hX
      have := opR_of (L := 0) (ty := o.type) hD (fun _ => r) (Nat.zero_le _) (hseen.opds hR) htr (read_grown hgr hc htr e1) (fun c f hoc hcf => by rw [hoc] at hc; simp [cls, hcf] at hc)
      rw [hc] at this; exact this.2
    | false =>
      obtain ⟨o, d₁, loc₁, h₁, items₁, ho, r, ht', e'⟩ := item_inv ht e
      obtain ⟨o', ho', hn, hA, hws, hfit, hgf, hst, hok⟩ := hok
      rw [ho] at ho'; cases ho'
      obtain ⟨I₁, hk⟩ := r.dinv I ho hn
      have hk' := (keeps hok ht' e' I₁).1
      have hvi : ∀ s, findI i d₁.l = some s → valOf env d' loc' i = slotVal env loc₁ d₁.n s := fun s hs => by
        obtain ⟨h1, h2⟩ := hk' i s (.inr rfl) hs
        unfold valOf; rw [h1]; exact h2
      have hval₁ : ∀ j s, (dn j ∨ j = i) → findI j d₁.l = some s → valOf env d' loc' j = slotVal env loc₁ d₁.n s := by
        intro j s hj hs
        obtain ⟨h1, h2⟩ := hk' j s hj hs
        unfold valOf; rw [h1]; exact h2
      have hcl₁ : ∀ j k, (dn j ∨ j = i) → A j k → (dn k ∨ k = i) := fun j k hj hAk => by
        rcases hj with hj | rfl
        · exact .inl (hcl j k hj hAk)
        · exact .inl (hA k hAk)
      have hseen : Seen live env ops A (valOf env d' loc') d loc i o.op := seen_new I hval hA fun t ht j oj hoj hdj hdn => by
        rcases hfit t ht j oj hoj hdj with h1 | h1 | h1
        · exact h1
        · exact absurd (hcl j i hdn h1) hn
        · subst h1; exact absurd hdn hn
      refine ⟨o, h₁, ho, ?_, ih hok ht' e' I₁ hval₁ hcl₁⟩
      have hdnj : ∀ {j s}, findI j d.l = some s → dn j := fun {j s} hs => by
        obtain ⟨t, hm⟩ := findI_mem hs
        exact (I.all j t s hm).1
      cases r with
      | move hg hm ht =>
        refine fact_move hseen (fun j w h => by rw [hg] at h; cases h) (.inl hg) hm ht ?_
        rw [hvi _ findI_cons_eq]
        exact (moveSlot_okay I ht).2
      | op hg hx ht e =>
        have hv := hvi _ findI_cons_eq
        refine fact_of hD hcall hseen (fun j w h => by rw [hg] at h; cases h) (.inl hg) hx ht ?_
        rw [hv]
        have hvv : ∀ v : AV, slotVal env (v :: loc) (d.n + 1) (.at d.n) = v := fun v => by
          show getL (v :: loc) (d.n + 1 - 1 - d.n) = v
          rw [show d.n + 1 - 1 - d.n = 0 by omega]; rfl
        rw [hvv]; exact e
      | yes hg hj hf hv hb hd =>
        have hv' := hvi _ findI_cons_eq
        have hvv : ∀ v : AV, slotVal env (v :: loc) (d.n + 1) (.at d.n) = v := fun v => by
          show getL (v :: loc) (d.n + 1 - 1 - d.n) = v
          rw [show d.n + 1 - 1 - d.n = 0 by omega]; rfl
        rw [hvv] at hv'
        have hdj := hdnj hf
        have hguard : ∀ j' w', o.guard = some (j', w') → A i j' := fun j' w' h => by rw [hg] at h; cases h; exact hgf _ _ hg hdj
        have hwants : Wants ρ ops (valOf env d' loc') o := .inr ⟨_, _, hg, hj, _, (hval _ _ hdj hf).trans hv, hd _ hD⟩
        rcases hb with ⟨x, ox, h1, h2, h3, h4⟩ | ⟨X, h1, h2, h3⟩
        · subst h4
          exact fact_move hseen hguard hwants h1 h2 (hv'.trans h3)
        · refine fact_of hD hcall hseen hguard hwants h1 h2 ?_
          rw [hv']; exact h3
      | no hnd hg hj hf hv =>
        have hv' := hvi _ findI_cons_eq
        have hvv : ∀ v : AV, slotVal env (v :: loc) (d.n + 1) (.at d.n) = v := fun v => by
          show getL (v :: loc) (d.n + 1 - 1 - d.n) = v
          rw [show d.n + 1 - 1 - d.n = 0 by omega]; rfl
        rw [hvv] at hv'
        have hdj := hdnj hf
        have hguard : ∀ j' w', o.guard = some (j', w') → A i j' := fun j' w' h => by rw [hg] at h; cases h; exact hgf _ _ hg hdj
        refine ⟨hnd, hguard, .inl ⟨⟨_, _, hg, hj, ?_⟩, hv', rfl⟩⟩
        rcases hv with ⟨vs, hv⟩ | ⟨sb, hv, hd⟩
        · exact .inl ⟨vs, (hval _ _ hdj hf).trans hv⟩
        · exact .inr ⟨sb, (hval _ _ hdj hf).trans hv, hd _ hD⟩
end
end SX
namespace SX
open Go
set_option linter.unusedVariables false
section
variable {P : Program} {ρ : Val} {live : Nat → Bool} {env : TV} {call : Call} {D : Dec} {nt L : Nat} {m : MM} {h h' : H} {w : World} {a : Act}
theorem writes_nil (env0 : TV) (loc : List AV) (env : TV) : writes env0 loc [] env = env := rfl
theorem writes_cons (env0 : TV) (loc : List AV) (x : Ps × Opd) (ws : List (Ps × Opd)) (env : TV) : writes env0 loc (x :: ws) env = writes env0 loc ws (TV.set (opd env0 loc x.2) x.1 env) := rfl
theorem writesOf_cons (n i d : Nat) (u : Slot) (l : List (Nat × Option Nat × Slot)) : writesOf live n ((i, some d, u) :: l) = if live d then (Ps.ofNat d, u.opdAt n) :: writesOf live n l else writesOf live n l := rfl
theorem writesOf_none (n i : Nat) (u : Slot) (l : List (Nat × Option Nat × Slot)) : writesOf live n ((i, none, u) :: l) = writesOf live n l := rfl
/-- what is written at a region's end -/
theorem writes_get (env0 : TV) (loc : List AV) (n : Nat) (t : Nat) (hl : live t = true) : ∀ (l : List (Nat × Option Nat × Slot)) (env : TV),
    (∃ j s, (j, some t, s) ∈ l ∧ TV.get (Ps.ofNat t) (writes env0 loc (writesOf live n l) env) = slotVal env0 loc n s) ∨
    ((∀ j s, (j, some t, s) ∉ l) ∧ TV.get (Ps.ofNat t) (writes env0 loc (writesOf live n l) env) = TV.get (Ps.ofNat t) env) := by
  intro l
  induction l with
  | nil => intro env; exact .inr ⟨fun j s h => (nomatch h), rfl⟩
  | cons x l ih =>
    obtain ⟨i, dst, u⟩ := x
    intro env
    cases dst with
    | none =>
      rw [writesOf_none]
      rcases ih env with ⟨j, s, h1, h2⟩ | ⟨h1, h2⟩
      · exact .inl ⟨j, s, List.mem_cons_of_mem _ h1, h2⟩
      · refine .inr ⟨fun j s hh => ?_, h2⟩
        rcases List.mem_cons.1 hh with h | h
        · cases h
        · exact h1 j s h
    | some d =>
      rw [writesOf_cons]
      cases hld : live d with
      | false =>
        rw [if_neg (by simp)]
        rcases ih env with ⟨j, s, h1, h2⟩ | ⟨h1, h2⟩
        · exact .inl ⟨j, s, List.mem_cons_of_mem _ h1, h2⟩
        · refine .inr ⟨fun j s hh => ?_, h2⟩
          rcases List.mem_cons.1 hh with h | h
          · cases h; rw [hl] at hld; cases hld
          · exact h1 j s h
      | true =>
        rw [if_pos rfl, writes_cons]
        rcases ih (TV.set (opd env0 loc (u.opdAt n)) (Ps.ofNat d) env) with ⟨j, s, h1, h2⟩ | ⟨h1, h2⟩
        · exact .inl ⟨j, s, List.mem_cons_of_mem _ h1, h2⟩
        · by_cases hdt : d = t
          · subst hdt
            exact .inl ⟨i, u, List.mem_cons_self .., by rw [h2]; exact TV.get_set_same _ _ _⟩
          · refine .inr ⟨fun j s hh => ?_, by rw [h2]; exact TV.get_set_other _ _ _ _ fun hp => hdt (Ps.ofNat_inj hp).symm⟩
            rcases List.mem_cons.1 hh with h | h
            · cases h; exact hdt rfl
            · exact h1 j s h
theorem nil_dinv (ops : List Oper) : DInv ops ⟨[], 0⟩ [] (fun _ => False) := ⟨rfl, fun _ h => h.elim, fun _ _ _ h => by cases h⟩
/-- a plan as it is found -/
theorem planOf_ok {ops : Array Oper} {draw : Bool} {pl : List (Nat × Bool)} (hds : DstsOK ops.toList nt) (h : planOf P ops draw = some pl) :
    ∃ A, PlanOK P ops.toList A pl (fun _ => False) (fun _ => False) (fun _ => False) ∧ ∀ t, Sched ops.size A (if draw then Region.linearise .any ops t else List.range ops.size) (fun _ => False) := by
  cases draw with
  | false =>
    cases h
    refine ⟨fun i j => j < i, ?_, fun t => ?_⟩
    · have := planOK_range (P := P) (ops := ops.toList) ops.size 0 (by simp)
      rw [← List.range_eq_range'] at this
      have e1 : (fun j => j < 0) = fun _ : Nat => False := funext fun j => propext ⟨fun h => (by omega), fun h => h.elim⟩
      have e2 : (fun j => j < 0 ∧ ∃ oj, ops.toList[j]? = some oj ∧ cls P oj.op = .world) = fun _ : Nat => False := funext fun j => propext ⟨fun h => (by omega), fun h => h.elim⟩
      rw [e1, e2] at this; exact this
    · have := sched_range ops.size ops.size 0 (by simp)
      rw [← List.range_eq_range'] at this
      have e1 : (fun j => j < 0) = fun _ : Nat => False := funext fun j => propext ⟨fun h => (by omega), fun h => h.elim⟩
      rw [e1] at this; exact this
  | true =>
    obtain ⟨an, han, h⟩ := bind_inv (o := ancs ops.toList 0 []) h
    obtain ⟨pl', hpl, h⟩ := bind_inv h
    split at h
    · rename_i hck
      cases h
      refine ⟨fun i j => (an.getD i 0).testBit j = true, ?_, fun t => sched_draw han t⟩
      have hck' : checkPlan P ops.toList an ops.toList.length pl 0 0 [] [] = true := by simpa using hck
      have := planOK_of hds hck' (fun j hj => by simp at hj)
      have e1 : (fun j => Nat.testBit 0 j = true) = fun _ : Nat => False := funext fun j => propext ⟨fun h => (by simp at h), fun h => h.elim⟩
      have e2 : (fun j : Nat => j ∈ ([] : List Nat)) = fun _ : Nat => False := funext fun j => propext ⟨fun h => (nomatch h), fun h => h.elim⟩
      rw [e1, e2] at this; exact this
    · cases h
/-- **a region** -/
theorem region_ok (hm : P.follows .mixedOrders = true) (hD : DecOK ρ D) (hcall : CallOK P ρ call) {ops : Array Oper} {draw : Bool} {items : List XItem} {ws : List (Ps × Opd)} {loc : List AV} {id : Nat}
    (ht : trRegion P live nt ops draw = some (.region items ws)) (e : doItems items call D env [] h = .ok loc h')
    (r : Rel P ρ m h w) (hL : L ≤ h.next.toNat) (he : EnvR ρ m live env a.tmps) (hnt : nt ≤ a.tmps.size) (b : Frame) (k : List Item) (cs : List Frame) :
    ∃ m' a' w', Step P ρ L m h w m' h' w' ∧ EnvR ρ m' live (writes env loc ws env) a'.tmps ∧ a'.tmps.size = a.tmps.size ∧ a'.defers = a.defers ∧
      Steps P (lone (b.atR a (.code (.region id ops draw) :: k)) cs w) (lone (b.atR a' k) cs w') := by
  unfold trRegion at ht
  split at ht
  · cases ht
  · rename_i hds
    have hds := dsts_ok hds
    obtain ⟨pl, hpl, ht⟩ := bind_inv ht
    cases hti : trItems P live ops.toList pl ⟨[], 0⟩ with
    | none => rw [hti] at ht; cases ht
    | some x =>
      obtain ⟨items', d'⟩ := x
      rw [hti] at ht
      cases ht
      obtain ⟨A, hok, hsch⟩ := planOf_ok hds hpl
      have hsem := sem_of hD hcall hok hti e (nil_dinv _) (fun j s h => h.elim) (fun j k h => h.elim)
      have hfin := (keeps hok hti e (nil_dinv _)).2
      -- the first step, and the order
      have hstart : ∃ (t : Nat) (w₁ : World), Step P ρ L m h w m h w₁ ∧ Steps P (lone (b.atR a (.code (.region id ops draw) :: k)) cs w) (lone (b.atR a (.inRegion ops (if draw then Region.linearise .any ops t else List.range ops.size) :: k)) cs w₁) := by
        cases draw with
        | false => exact ⟨0, w, Step.refl r, .one stepR_region⟩
        | true =>
          refine ⟨w.tape w.drawn (.order b.fn id), { w with drawn := w.drawn + 1 }, Step.drawn r _, ?_⟩
          have := stepR_region_draw (P := P) (b := b) (a := a) (k := k) (cs := cs) (w := w) (ops := ops) (id := id)
          simp only [Region.schedule, hm, Bool.true_or, if_true] at this
          exact .one this
      obtain ⟨t, w₁, hst₁, hgo₁⟩ := hstart
      obtain ⟨m₂, a₂, w₂, hst, hvals, hkept, hsz, hdef, hgo⟩ := RInv.all (nt := nt) hds hnt he b k cs (RInv.start (nt := nt) (a0 := a) hst₁.rel hL hok hsem) (hsch t)
      refine ⟨m₂, a₂, w₂, hst₁.trans hst, fun t hl => ?_, hsz, hdef, hgo₁.trans hgo⟩
      rcases writes_get (live := live) env loc d'.n t hl d'.l.reverse env with ⟨j, s, hmem, hg⟩ | ⟨hno, hg⟩
      · rw [hg]
        obtain ⟨h1, h2, ⟨oj, h3, h4⟩, h5⟩ := hfin.all j _ s (by simpa using hmem)
        have := hvals j oj t (arr_list.1 h3) h4
        unfold valOf at this; rw [h5] at this; exact this
      · rw [hg, hkept t fun i o ho hd => ?_]
        · exact V.mono hst.ext _ _ (he t hl)
        · have hi : i < ops.toList.length := (List.getElem?_eq_some_iff.1 (arr_list.2 ho)).1
          obtain ⟨s, hs⟩ := hfin.mem i hi
          obtain ⟨t', hm'⟩ := findI_mem hs
          obtain ⟨_, _, ⟨oj, h3, h4⟩, _⟩ := hfin.all i t' s hm'
          rw [arr_list.2 ho] at h3; cases h3
          rw [← h4, hd] at hm'
          exact hno i s (by simpa using hm')
end
end SX
end
