/-
  Code, rounds, functions: the executor is sound.
-/
import Derived.Test.YtilplhecmdoifaaGreatDoorSxd
import Derived.RangeFuncIn
import Derived.RangeFuncRecord
set_option linter.all false
noncomputable section
namespace SX
open Go
set_option linter.unusedVariables false
/-! ### how a code is left -/
def Arr (P : Program) (m₀ : Machine) (b : Frame) (k : List Item) (cs : List Frame) (e : Ex) (a : Act) (w : World) : Prop := match e with
  | .normal => Steps P m₀ (lone (b.atR a k) cs w)
  | .exit id => ∃ todo, Steps P m₀ (lone (b.atR a (.code (.exit id) :: todo)) cs w) ∧ exitTo id todo = exitTo id k
  | .goto l => ∃ todo, Steps P m₀ (lone (b.atR a (.code (.goto l) :: todo)) cs w) ∧ gotoIn l todo = gotoIn l k
  | .ret => ∃ todo, Steps P m₀ (lone (b.atR a (.code .ret :: todo)) cs w)
section
variable {P : Program} {ρ : Val} {m₀ m₁ : Machine} {b : Frame} {k : List Item} {cs : List Frame} {a : Act} {w w' : World} {m m' : MM} {h h' : H} {L : Nat}
theorem Arr.of_steps {e : Ex} (hs : Steps P m₀ m₁) (h : Arr P m₁ b k cs e a w) : Arr P m₀ b k cs e a w := by
  cases e with
  | normal => exact hs.trans h
  | exit id => obtain ⟨todo, h1, h2⟩ := h; exact ⟨todo, hs.trans h1, h2⟩
  | goto l => obtain ⟨todo, h1, h2⟩ := h; exact ⟨todo, hs.trans h1, h2⟩
  | ret => obtain ⟨todo, h1⟩ := h; exact ⟨todo, hs.trans h1⟩
/-- left otherwise than to what comes next: past an item that catches nothing -/
theorem Arr.pass {e : Ex} {x : Item} (hx : x.plain = true) (he : e ≠ .normal) (h : Arr P m₀ b (x :: k) cs e a w) : Arr P m₀ b k cs e a w := by
  cases e with
  | normal => exact absurd rfl he
  | exit id =>
    obtain ⟨todo, h1, h2⟩ := h
    exact ⟨todo, h1, h2.trans (by cases x <;> first | rfl | (simp [Item.plain] at hx))⟩
  | goto l =>
    obtain ⟨todo, h1, h2⟩ := h
    exact ⟨todo, h1, h2.trans (by cases x <;> first | rfl | (simp [Item.plain] at hx))⟩
  | ret => exact h
theorem stepR_scope {c : Code} : step P (lone (b.atR a (.code (.scope c) :: k)) cs w) = .next (lone (b.atR a (.code c :: .inScope c :: k)) cs w) :=
  step_lone_go (by simp [stepG, stepG.exec, Frame.atR])
theorem stepR_inScope {c : Code} : step P (lone (b.atR a (.inScope c :: k)) cs w) = .next (lone (b.atR a k) cs w) :=
  step_lone_go (by simp [stepG, stepG.exec, Frame.atR])
/-! ### deferred calls: marks of loops over functions alone -/
def markOf (r : Nat) : Deferred := { target := .collected r, args := #[] }
def DefOK (B : Nat) (m : MM) (w : World) (ds : List Deferred) : Prop :=
  B ≤ w.heap.size ∧ ∃ rs : List Nat, ds = rs.map markOf ∧ rs.Nodup ∧ ∀ r ∈ rs, B ≤ r ∧ r < w.heap.size ∧ w.heap[r]? = some (.deferred (some [])) ∧ ∀ p x, m p = some x → x.1 ≠ r
theorem DefOK.nil {B : Nat} (hB : B ≤ w.heap.size) : DefOK B m w [] := ⟨hB, [], rfl, List.nodup_nil, fun r h => by cases h⟩
theorem DefOK.step {B : Nat} {ds : List Deferred} (hd : DefOK B m w ds) (s : Step P ρ L m h w m' h' w') : DefOK B m' w' ds := by
  obtain ⟨h0, rs, h1, h2, h3⟩ := hd
  refine ⟨Nat.le_trans h0 s.size, rs, h1, h2, fun r hr => ?_⟩
  obtain ⟨g0, g1, g2, g3⟩ := h3 r hr
  refine ⟨g0, Nat.lt_of_lt_of_le g1 s.size, by rw [s.framed r g1 g3]; exact g2, fun p x hx => ?_⟩
  rcases s.news p x hx with h | h | ⟨q, y, hq, he⟩
  · exact g3 p x h
  · omega
  · rw [← he]; exact g3 q y hq
/-- what is asked of a piece of code -/
structure CodeOK (P : Program) (ρ : Val) (live : Nat → Bool) (nt : Nat) (rd : Bool) (ev : TV → H → RC) (start : List Item → List Item) : Prop where
  run : ∀ {env : TV} {h : H} {e : Ex} {env' : TV} {h' : H}, ev env h = .ok e env' h' → ∀ {L B : Nat} {m : MM} {w : World} {a : Act}, Rel P ρ m h w → L ≤ h.next.toNat → EnvR ρ m live env a.tmps → nt ≤ a.tmps.size → DefOK B m w a.defers →
    ∀ (b : Frame) (k : List Item) (cs : List Frame), (rd = false → b.roundOf = none) →
    ∃ m' a' w', Step P ρ L m h w m' h' w' ∧ EnvR ρ m' live env' a'.tmps ∧ a'.tmps.size = a.tmps.size ∧ DefOK B m' w' a'.defers ∧ Arr P (lone (b.atR a (start k)) cs w) b k cs e a' w'
theorem onNormal_inv {k : TV → H → RC} {r : RC} {e : Ex} {env' : TV} {h' : H} (hh : onNormal k r = .ok e env' h') : (∃ env h, r = .ok .normal env h ∧ k env h = .ok e env' h') ∨ (e ≠ .normal ∧ r = .ok e env' h') := by
  cases r with
  | ok x env h =>
    cases x with
    | normal => exact .inl ⟨env, h, rfl, hh⟩
    | exit i => have hh' : RC.ok (.exit i) env h = .ok e env' h' := hh; cases hh'; exact .inr ⟨by simp, rfl⟩
    | goto i => have hh' : RC.ok (.goto i) env h = .ok e env' h' := hh; cases hh'; exact .inr ⟨by simp, rfl⟩
    | ret => have hh' : RC.ok .ret env h = .ok e env' h' := hh; cases hh'; exact .inr ⟨by simp, rfl⟩
  | fail => have hh' : RC.fail = .ok e env' h' := hh; cases hh'
  | need x y z => have hh' : RC.need x y z = .ok e env' h' := hh; cases hh'
variable {live : Nat → Bool} {nt : Nat} {rd : Bool}
/-- one behind the other -/
theorem CodeOK.next {ev₁ ev₂ : TV → H → RC} {st : List Item → List Item} {st₂ : List Item → List Item}
    (h₁ : CodeOK P ρ live nt rd ev₁ st) (h₂ : CodeOK P ρ live nt rd ev₂ st₂) {y : List Item → Item} (hy : ∀ k, (y k).plain = true) {st₀ : List Item → List Item}
    (hin : ∀ (b : Frame) (a : Act) (k : List Item) (cs : List Frame) (w : World), Steps P (lone (b.atR a (st₀ k)) cs w) (lone (b.atR a (st (y k :: k))) cs w))
    (hout : ∀ (b : Frame) (a : Act) (k : List Item) (cs : List Frame) (w : World), Steps P (lone (b.atR a (y k :: k)) cs w) (lone (b.atR a (st₂ k)) cs w)) :
    CodeOK P ρ live nt rd (fun env h => onNormal (fun env h => ev₂ env h) (ev₁ env h)) st₀ := by
  constructor
  intro env h e env' h' hev L B m w a r hL he hnt hd b k cs hb
  rcases onNormal_inv hev with ⟨env₁, h₁', e1, e2⟩ | ⟨hne, e1⟩
  · obtain ⟨m₁, a₁, w₁, s₁, he₁, hsz₁, hd₁, harr₁⟩ := h₁.run e1 r hL he hnt hd b (y k :: k) cs hb
    obtain ⟨m₂, a₂, w₂, s₂, he₂, hsz₂, hd₂, harr₂⟩ := h₂.run e2 s₁.rel (Nat.le_trans hL s₁.next) he₁ (by omega) hd₁ b k cs hb
    exact ⟨m₂, a₂, w₂, s₁.trans s₂, he₂, hsz₂.trans hsz₁, hd₂, .of_steps ((hin b a k cs w).trans (Steps.trans harr₁ (hout b a₁ k cs w₁))) harr₂⟩
  · obtain ⟨m₁, a₁, w₁, s₁, he₁, hsz₁, hd₁, harr₁⟩ := h₁.run e1 r hL he hnt hd b (y k :: k) cs hb
    exact ⟨m₁, a₁, w₁, s₁, he₁, hsz₁, hd₁, .of_steps (hin b a k cs w) (.pass (hy k) hne harr₁)⟩
end
end SX
namespace SX
open Go
set_option linter.unusedVariables false
section
variable {P : Program} {ρ : Val} {m₀ m₁ : Machine} {b : Frame} {k : List Item} {cs : List Frame} {a : Act} {w w' : World} {m m' : MM} {h h' : H} {L : Nat} {live : Nat → Bool} {nt : Nat} {rd : Bool}
theorem opd_env {env : TV} {x : Operand} {ox : Opd} (ht : trOpd live ⟨[], 0⟩ x = some ox) (he : EnvR ρ m live env a.tmps) : V ρ m (opd env [] ox) (a.eval x) := by
  cases x with
  | tmp t =>
    have ht' : (if live t then some (Opd.env (Ps.ofNat t)) else none) = some ox := ht
    split at ht'
    · rename_i hl; cases ht'; exact he t hl
    · cases ht'
  | const v =>
    have ht' : (avOf v).map Opd.const = some ox := ht
    cases hv : avOf v with
    | none => rw [hv] at ht'; cases ht'
    | some z => rw [hv] at ht'; cases ht'; exact avOf_ok hv
  | global g => cases ht
  | func f => cases ht; exact V.func_lit m f
theorem condOn_ok {D : Dec} (hD : DecOK ρ D) {x y : RC} {v : AV} {u : Value} {e : Ex} {env : TV} {hh : H} (hc : condOn D x y v = .ok e env hh) (hv : V ρ m v u) :
    ∃ t, u = .bool t ∧ (if t then x else y) = .ok e env hh := by
  cases v with
  | bool s =>
    have hv' : u = .bool (s.den ρ) := hv
    have hc' : ifC D s x y = .ok e env hh := hc
    rcases ifC_ok hD hc' with ⟨h1, h2⟩ | ⟨h1, h2⟩
    · exact ⟨true, by rw [hv', h1], h2⟩
    · exact ⟨false, by rw [hv', h1], h2⟩
  | _ => have hc' : RC.fail = RC.ok e env hh := hc; cases hc'
/-- a loop, from its body on -/
theorem loop_ok {c : Code} {A : CoF} {cx : Cx} (hc : CodeOK P ρ live nt rd (fun env h => A cx env h) (fun k => .code c :: k)) :
    ∀ n, CodeOK P ρ live nt rd (fun env h => loopN n A cx env h) (fun k => .code c :: .inLoop c :: k) := by
  intro n
  induction n with
  | zero => constructor; intro env h e env' h' hev; have hev' : RC.fail = .ok e env' h' := hev; cases hev'
  | succ n ih =>
    exact CodeOK.next hc ih (y := fun _ => .inLoop c) (fun _ => rfl) (fun b a k cs w => Steps.refl _ _) (fun b a k cs w => .one stepR_inLoop)
theorem outOf_inv {id : Nat} {r : RC} {e : Ex} {env' : TV} {h' : H} (hh : outOf id r = .ok e env' h') :
    (e = .normal ∧ (r = .ok .normal env' h' ∨ r = .ok (.exit id) env' h')) ∨ (e ≠ .normal ∧ e ≠ .exit id ∧ r = .ok e env' h') := by
  cases r with
  | ok x env h =>
    cases x with
    | normal => cases hh; exact .inl ⟨rfl, .inl rfl⟩
    | exit i =>
      have hh' : pickC (Nat.beq i id) (.ok .normal env h) (.ok (.exit i) env h) = .ok e env' h' := hh
      cases hb : Nat.beq i id with
      | true => rw [hb] at hh'; cases hh'; rw [Nat.eq_of_beq_eq_true hb]; exact .inl ⟨rfl, .inr rfl⟩
      | false => rw [hb] at hh'; cases hh'; exact .inr ⟨by simp, fun h => Nat.ne_of_beq_eq_false hb (by cases h; rfl), rfl⟩
    | goto i => cases hh; exact .inr ⟨by simp, by simp, rfl⟩
    | ret => cases hh; exact .inr ⟨by simp, by simp, rfl⟩
  | fail => cases hh
  | need x y z => cases hh
theorem findLabel_tr (l : Nat) : ∀ c : Code, (trCode P live nt rd c).findLabel l = (Go.findLabel c l).map (trCode P live nt rd)
  | .seq x y => by
    have h1 := findLabel_tr l x
    have h2 := findLabel_tr l y
    show (match (trCode P live nt rd x).findLabel l with | some rest => some (XCode.seq rest (trCode P live nt rd y)) | none => (trCode P live nt rd y).findLabel l) = _
    rw [h1]
    show _ = (match Go.findLabel x l with | some rest => some (Code.seq rest y) | none => Go.findLabel y l).map _
    cases Go.findLabel x l with
    | none => exact h2
    | some r => rfl
  | .label l' => by
    show (if l' == l then some XCode.skip else none) = (if l' == l then some Code.skip else none).map _
    split <;> rfl
  | .skip => rfl
  | .region id ops d => by
    have : (trCode P live nt rd (.region id ops d)) = match trRegion P live nt ops d with | some c => c | none => .bad := rfl
    rw [this]
    cases hr : trRegion P live nt ops d with
    | none => rfl
    | some c =>
      unfold trRegion at hr
      split at hr
      · cases hr
      · obtain ⟨pl, _, hr⟩ := bind_inv hr
        cases ht : trItems P live ops.toList pl ⟨[], 0⟩ with
        | none => rw [ht] at hr; cases hr
        | some x => obtain ⟨i, d⟩ := x; rw [ht] at hr; cases hr; rfl
  | .cond c x y => by
    have : (trCode P live nt rd (.cond c x y)) = match trOpd live ⟨[], 0⟩ c with | some c => .cond c (trCode P live nt rd x) (trCode P live nt rd y) | none => .bad := rfl
    rw [this]
    cases trOpd live ⟨[], 0⟩ c <;> rfl
  | .block id x => rfl
  | .loop x => rfl
  | .rangeFunc f ps x y => by
    have : (trCode P live nt rd (.rangeFunc f ps x y)) = match rd with
        | true => .bad
        | false => match trOpd live ⟨[], 0⟩ f with
          | some f => match ps.toList.all fun t => live t with
            | true => .rangeF f (ps.toList.map Ps.ofNat) (trCode P live nt true x) (trCode P live nt true y)
            | false => .bad
          | none => .bad := rfl
    rw [this]
    cases rd with
    | true => rfl
    | false =>
      cases trOpd live ⟨[], 0⟩ f with
      | none => rfl
      | some f => simp only []; cases (ps.toList.all fun t => live t) <;> rfl
  | .exit id => rfl
  | .scope x => rfl
  | .goto l' => rfl
  | .ret => rfl
  | .refuse s => rfl
structure CxOK (P : Program) (ρ : Val) (cx : Cx) : Prop where
  call : CallOK P ρ cx.call
  dec : DecOK ρ cx.D
  code : ∀ (live : Nat → Bool) (nt : Nat) (rd : Bool), (∀ t, live t = true → t < nt) → ∀ body rest : Code,
    CodeOK P ρ live nt rd (fun env h => cx.code (.scope (trCode P live nt rd body) (trCode P live nt rd rest)) env h) (fun k => .code rest :: .inScope body :: k)
/-- a scope, from where it is at -/
theorem scope_ok {cx : Cx} (hcx : CxOK P ρ cx) (hl : ∀ t, live t = true → t < nt) {body rest : Code} {A : CoF} (hc : CodeOK P ρ live nt rd (fun env h => A cx env h) (fun k => .code rest :: k)) (X : XCode) (Y : CoF) :
    CodeOK P ρ live nt rd (fun env h => cScope (trCode P live nt rd body) X Y A cx env h) (fun k => .code rest :: .inScope body :: k) := by
  constructor
  intro env h e env' h' hev L B m w a r hL he hnt hd b k cs hb
  have hev' : (match A cx env h with
    | .ok (.goto l) env h => match (trCode P live nt rd body).findLabel l with
      | some rest => cx.code (.scope (trCode P live nt rd body) rest) env h
      | none => .ok (.goto l) env h
    | r => r) = .ok e env' h' := hev
  cases hA : A cx env h with
  | fail => rw [hA] at hev'; cases hev'
  | need x y z => rw [hA] at hev'; cases hev'
  | ok x env₁ h₁ =>
    obtain ⟨m₁, a₁, w₁, s₁, he₁, hsz₁, hd₁, harr₁⟩ := hc.run hA r hL he hnt hd b (.inScope body :: k) cs hb
    rw [hA] at hev'
    cases x with
    | normal =>
      cases hev'
      exact ⟨m₁, a₁, w₁, s₁, he₁, hsz₁, hd₁, Steps.trans harr₁ (.one stepR_inScope)⟩
    | exit id =>
      cases hev'
      obtain ⟨todo, h1, h2⟩ := harr₁
      exact ⟨m₁, a₁, w₁, s₁, he₁, hsz₁, hd₁, todo, h1, h2⟩
    | ret => cases hev'; exact ⟨m₁, a₁, w₁, s₁, he₁, hsz₁, hd₁, harr₁⟩
    | goto l =>
      obtain ⟨todo, h1, h2⟩ := harr₁
      simp only at hev'
      rw [findLabel_tr] at hev'
      have hg : gotoIn l (.inScope body :: k) = match Go.findLabel body l with | some rest => some (.code rest :: .inScope body :: k) | none => gotoIn l k := rfl
      rw [hg] at h2
      cases hfl : Go.findLabel body l with
      | none =>
        rw [hfl] at hev' h2
        cases hev'
        exact ⟨m₁, a₁, w₁, s₁, he₁, hsz₁, hd₁, todo, h1, h2⟩
      | some rest' =>
        rw [hfl] at hev' h2
        obtain ⟨m₂, a₂, w₂, s₂, he₂, hsz₂, hd₂, harr₂⟩ := (hcx.code live nt rd hl body rest').run hev' s₁.rel (Nat.le_trans hL s₁.next) he₁ (by omega) hd₁ b k cs hb
        exact ⟨m₂, a₂, w₂, s₁.trans s₂, he₂, hsz₂.trans hsz₁, hd₂, .of_steps (Steps.trans h1 (.one (stepR_goto h2))) harr₂⟩
end
end SX
namespace SX
open Go
set_option linter.unusedVariables false
section
variable {P : Program} {ρ : Val} {m₀ m₁ : Machine} {b : Frame} {k : List Item} {cs : List Frame} {a : Act} {w w' : World} {m m' : MM} {h h' : H} {L : Nat} {live : Nat → Bool} {nt : Nat} {rd : Bool}
/-- an object that stands for nothing -/
theorem Step.pushed (r : Rel P ρ m h w) (o : Obj) : Step P ρ L m h w m h { w with heap := w.heap.push o } where
  ext := Ext.refl m
  rel := {
    blk := fun q c b s hq => by
      obtain ⟨h1, h2⟩ := r.blk q c b s hq
      exact ⟨by simp; omega, h2.mono (Ext.refl m) (push_get h1)⟩
    inj := r.inj
    fresh := r.fresh }
  size := by simp
  framed c hc _ := push_get hc
  tape := ⟨rfl, rfl, rfl⟩
  next := Nat.le_refl _
  still q hq hm := ⟨hm, rfl⟩
  news q x hx := .inl hx
  ro _ _ hp := hp
theorem stepR_rangeFunc' {g : Operand} {ps : Array Tmp} {assign body : Code} {l : Nat} {mark : List Deferred} {w₁ w₂ : World} {s : Start}
    (he : (Instr.enterLoop b.fn a.tmps ps assign body b.roundOf).run P w = .ok (l, mark) w₁)
    (hr : (callSem (a.eval g) #[.func (.yield l) #[] #[]]).run P w₁ = .ok s.next w₂) :
    step P (lone (b.atR a (.code (.rangeFunc g ps assign body) :: k)) cs w) =
      .next (lone (s.frame P) (b.atR { a with defers := mark ++ a.defers } (.inRangeFunc l :: k) :: cs) w₂) :=
  step_lone_go (by
    have hev := Frame.eval_atR b { a with defers := mark ++ a.defers } (.inRangeFunc l :: k)
    simp only [Frame.atR] at hev
    have hx : (do let d ← resolve ({ tmps := a.tmps, defers := mark ++ a.defers } : Act).eval { callee := .value g, args := #[.const (.func (.yield l) #[] #[])], argTypes := #[] } 0; invoke d.target d.args : Sem Next) = callSem (a.eval g) #[.func (.yield l) #[] #[]] := by
      unfold resolve callSem
      have : ({ tmps := a.tmps, defers := mark ++ a.defers } : Act).eval g = a.eval g := by cases g <;> rfl
      simp [this, Act.eval]
    cases s with
    | fn f as =>
      simp only [stepG, stepG.exec, Frame.atR, Sem.runT_eq, he, GStep.bare_after, stepG.apply, hev, hx, hr, Start.next]
      simp [Start.frame]
    | round l' f t as bd =>
      simp only [stepG, stepG.exec, Frame.atR, Sem.runT_eq, he, GStep.bare_after, stepG.apply, hev, hx, hr, Start.next]
      simp [Start.frame])
/-- the record of a loop becomes another -/
theorem loop_put (r : Rel P ρ m h w) {p : Ps} {c b z st st' : Nat} {pend pend' : Ex} {en : TV} {ps : List Ps} {as body : XCode} (hm : m p = some (c, b, z)) (hp : TB.get p h.t = .loop st pend en ps as body) {R R' : Loop}
    (hc : w.heap[c]? = some (.loop R)) (hR : LoopR P ρ m st' pend' en ps as body R') : Step P ρ L m h w m (h.put p (.loop st' pend' en ps as body)) (w.putObj c (.loop R')) := by
  have hlt : c < w.heap.size := (Array.getElem?_eq_some_iff.1 hc).1
  refine Rel.changed r hm (by rw [hp]; simp) (fun cs => by rw [hp]; simp) World.putObj_size (fun i _ hi => World.putObj_heap_other hi) ⟨rfl, rfl, rfl⟩ ⟨R', ?_, hR⟩
  show (w.heap.setIfInBounds c _)[c]? = _
  simp [hlt]
theorem loop_blk (r : Rel P ρ m h w) {p : Ps} {c b z st : Nat} {pend : Ex} {en : TV} {ps : List Ps} {as body : XCode} (hm : m p = some (c, b, z)) (hp : TB.get p h.t = .loop st pend en ps as body) :
    ∃ R : Loop, w.heap[c]? = some (.loop R) ∧ LoopR P ρ m st pend en ps as body R := by
  have := (r.blk p c b z hm).2
  rw [hp] at this; exact this
theorem stNo_busy {s : LoopState} (h : stNo s ≠ 1) : s ≠ .busy := by intro hs; subst hs; exact h rfl
/-- what a range over a function comes to -/
theorem rangeF_ok {cx : Cx} (hcx : CxOK P ρ cx) (hl : ∀ t, live t = true → t < nt) {f : Operand} {of : Opd} {params : Array Tmp} {assign body : Code} (hf : trOpd live ⟨[], 0⟩ f = some of) (hps : ∀ t ∈ params.toList, live t = true) (X Y : CoF) :
    CodeOK P ρ live nt false (fun env h => cRangeF of (params.toList.map Ps.ofNat) (trCode P live nt true assign) (trCode P live nt true body) X Y cx env h) (fun k => .code (.rangeFunc f params assign body) :: k) := by
  constructor
  intro env h e env' h' hev L B m w a r hL he hnt hd b k cs hb
  have hb := hb rfl
  have hev' : (match cx.call (opd env [] of) [.yield h.next] (h.alloc (.loop 0 .normal env (params.toList.map Ps.ofNat) (trCode P live nt true assign) (trCode P live nt true body))) with
    | .ok _ h' => match TB.get h.next h'.t with
      | .loop st pend e ps as body => match Nat.beq st 1 with
        | true => .fail
        | false => .ok pend env (h'.put h.next (.loop 3 pend e ps as body))
      | _ => .fail
    | .need r a b => .need r a b
    | .fail => .fail) = RC.ok e env' h' := hev
  generalize hBk : Blk.loop 0 .normal env (params.toList.map Ps.ofNat) (trCode P live nt true assign) (trCode P live nt true body) = Bk at hev'
  cases hcall : cx.call (opd env [] of) [.yield h.next] (h.alloc Bk) with
  | fail => rw [hcall] at hev'; cases hev'
  | need x y z => rw [hcall] at hev'; cases hev'
  | ok u h₂ =>
    rw [hcall] at hev'
    simp only at hev'
    -- the two blocks
    let rec₀ : Loop := { state := .ready, pending := none, fn := b.fn, tmps := a.tmps, params := params, assign := assign, body := body, defers := w.heap.size }
    have s₁ : Step P ρ L m h w m h { w with heap := w.heap.push (.deferred (some [])) } := Step.pushed r _
    have hnew : NewR P ρ m Bk (.loop rec₀) 0 := by
      rw [← hBk]
      exact ⟨rec₀, rfl, rfl, rfl, rfl, live, nt, rfl, rfl, he, hps, hl, hnt⟩
    have s₂ := Step.made (L := L) s₁.rel hnew hL
    have s₁₂ := s₁.trans s₂
    have hsz : (w.heap.push (Obj.deferred (some []))).size = w.heap.size + 1 := by simp
    rw [show ({ w with heap := w.heap.push (Obj.deferred (some [])) } : World).heap.size = w.heap.size + 1 from hsz] at s₁₂
    generalize hw₁ : ({ ({ w with heap := w.heap.push (Obj.deferred (some [])) } : World) with heap := ({ w with heap := w.heap.push (Obj.deferred (some [])) } : World).heap.push (Obj.loop rec₀) } : World) = w₁ at s₁₂
    have hel : (Instr.enterLoop b.fn a.tmps params assign body b.roundOf).run P w = .ok (w.heap.size + 1, [markOf w.heap.size]) w₁ := by
      rw [hb, ← hw₁]; exact run_enterLoop_outer _ _ _ _ _
    have hm₁ : upd m h.next (w.heap.size + 1, 0, 0) h.next = some (w.heap.size + 1, 0, 0) := upd_same ..
    obtain ⟨s, hrun, hback⟩ := hcx.call (avs := #[.func (.yield (w.heap.size + 1)) #[] #[]]) hcall s₁₂.rel (Nat.le_trans hL s₁₂.next) (V.mono s₁₂.ext _ _ (opd_env hf he))
      ⟨_, [], rfl, ⟨_, _, _, hm₁, rfl⟩, rfl⟩
    have hgo := stepR_rangeFunc' (b := b) (a := a) (k := k) (cs := cs) hel hrun
    obtain ⟨m₂, w₂, v₂, s₃, hV₂, hback'⟩ := hback (b.atR { a with defers := [markOf w.heap.size] ++ a.defers } (.inRangeFunc (w.heap.size + 1) :: k)) cs
    rw [finish_atR_inRangeFunc] at hback'
    -- the loop's end
    cases hblk : TB.get h.next h₂.t with
    | loop st pend en ps as bd =>
      rw [hblk] at hev'
      simp only at hev'
      cases hst : Nat.beq st 1 with
      | true => rw [hst] at hev'; cases hev'
      | false =>
        rw [hst] at hev'
        cases hev'
        have hm₂ := s₃.ext _ _ hm₁
        obtain ⟨R, hR1, hR2⟩ := loop_blk s₃.rel hm₂ hblk
        obtain ⟨g1, g2, g3, lv, nt', g4, g5, g6, g7, g8, g9⟩ := hR2
        have hnb : R.state ≠ .busy := stNo_busy (by rw [g1]; exact Nat.ne_of_beq_eq_false hst)
        have hend := run_endLoop (P := P) hR1 hnb
        have s₄ := loop_put (L := L) s₃.rel hm₂ hblk (st' := 3) (pend' := e) (R' := { R with state := .exhausted }) hR1 ⟨rfl, g2, g3, lv, nt', g4, g5, g6, g7, g8, g9⟩
        have hsteps := (Steps.head hgo hback').trans (.one (stepR_endRangeFunc hend))
        generalize w₂.putObj (w.heap.size + 1) (.loop { R with state := .exhausted }) = W at s₄ hsteps
        have sall := (s₁₂.trans s₃).trans s₄
        refine ⟨m₂, { a with defers := [markOf w.heap.size] ++ a.defers }, _, sall, fun t ht => V.mono sall.ext _ _ (he t ht), rfl, ?_, ?_⟩
        · refine DefOK.step (m := upd m h.next (w.heap.size + 1, 0, 0)) ?_ (s₃.trans s₄)
          obtain ⟨d0, rs, d1, d2, d3⟩ := hd.step s₁₂
          have hrs : ∀ r ∈ rs, r < w.heap.size := by
            obtain ⟨d0', rs', d1', d2', d3'⟩ := hd
            have : rs.map markOf = rs'.map markOf := d1.symm.trans d1'
            have hinj : ∀ (x y : List Nat), x.map markOf = y.map markOf → x = y := by
              intro x
              induction x with
              | nil => intro y h; cases y with | nil => rfl | cons _ _ => simp at h
              | cons a x ih => intro y h; cases y with
                | nil => simp at h
                | cons b y => simp [markOf] at h; rw [h.1, ih y (by simpa [markOf] using h.2)]
            rw [hinj _ _ this]
            exact fun r hr => (d3' r hr).2.1
          refine ⟨d0, w.heap.size :: rs, by rw [d1]; rfl, List.nodup_cons.2 ⟨fun h => Nat.lt_irrefl _ (hrs _ h), d2⟩, fun r' hr' => ?_⟩
          rcases List.mem_cons.1 hr' with rfl | hr'
          · have hd2 : w₁.heap[w.heap.size]? = some (.deferred (some [])) := by
              rw [← hw₁]
              have h1 : (w.heap.push (Obj.deferred (some [])))[w.heap.size]? = some (.deferred (some [])) := by simp
              exact (push_get (w := { w with heap := w.heap.push (Obj.deferred (some [])) }) (by simp)).trans h1
            refine ⟨hd.1, by rw [← hw₁]; simp; omega, hd2, fun p x hx => ?_⟩
            by_cases hp : p = h.next
            · subst hp; rw [upd_same] at hx; cases hx; simp
            · rw [upd_other hp] at hx
              have := (r.blk p x.1 x.2.1 x.2.2 hx).1
              omega
          · exact d3 r' hr'
        · cases e with
          | normal =>
            have g2' : R.pending = none := g2
            rw [g2'] at hsteps; exact hsteps
          | exit id =>
            have g2' : R.pending = some (.exit id) := g2
            rw [g2'] at hsteps; exact ⟨k, hsteps, rfl⟩
          | goto l =>
            have g2' : R.pending = some (.goto l) := g2
            rw [g2'] at hsteps; exact ⟨k, hsteps, rfl⟩
          | ret =>
            have g2' : R.pending = some .ret := g2
            rw [g2'] at hsteps; exact ⟨k, hsteps⟩
    | _ => rw [hblk] at hev'; cases hev'
end
end SX
namespace SX
open Go
set_option linter.unusedVariables false
section
variable {P : Program} {ρ : Val} {live : Nat → Bool} {nt : Nat} {cx : Cx}
theorem CodeOK.fail {rd : Bool} {ev : TV → H → RC} {st : List Item → List Item} (h : ∀ env h, ev env h = .fail) : CodeOK P ρ live nt rd ev st := by
  constructor; intro env hh e env' h' hev; rw [h] at hev; cases hev
/-- **code** -/
theorem code_ok (hm : P.follows .mixedOrders = true) (hcx : CxOK P ρ cx) (hl : ∀ t, live t = true → t < nt) : ∀ (c : Code) (rd : Bool), CodeOK P ρ live nt rd (fun env h => evC (trCode P live nt rd c) cx env h) (fun k => .code c :: k) := by
  intro c
  induction c with
  | skip =>
    intro rd
    constructor
    intro env h e env' h' hev L B m w a r hL he hnt hd b k cs hb
    cases hev
    exact ⟨m, a, w, Step.refl r, he, rfl, hd, Steps.one stepR_skip⟩
  | label l =>
    intro rd
    constructor
    intro env h e env' h' hev L B m w a r hL he hnt hd b k cs hb
    cases hev
    exact ⟨m, a, w, Step.refl r, he, rfl, hd, Steps.one stepR_label⟩
  | exit id =>
    intro rd
    constructor
    intro env h e env' h' hev L B m w a r hL he hnt hd b k cs hb
    cases hev
    exact ⟨m, a, w, Step.refl r, he, rfl, hd, k, Steps.refl _ _, rfl⟩
  | goto l =>
    intro rd
    constructor
    intro env h e env' h' hev L B m w a r hL he hnt hd b k cs hb
    cases hev
    exact ⟨m, a, w, Step.refl r, he, rfl, hd, k, Steps.refl _ _, rfl⟩
  | ret =>
    intro rd
    constructor
    intro env h e env' h' hev L B m w a r hL he hnt hd b k cs hb
    cases hev
    exact ⟨m, a, w, Step.refl r, he, rfl, hd, k, Steps.refl _ _⟩
  | refuse s => exact fun rd => CodeOK.fail (fun _ _ => rfl)
  | region id ops draw =>
    intro rd
    have e0 : trCode P live nt rd (.region id ops draw) = match trRegion P live nt ops draw with | some c => c | none => .bad := rfl
    rw [e0]
    cases hr : trRegion P live nt ops draw with
    | none => exact CodeOK.fail (fun _ _ => rfl)
    | some c =>
      have hr' := hr
      unfold trRegion at hr'
      split at hr'
      · cases hr'
      · obtain ⟨pl, _, hr'⟩ := bind_inv hr'
        cases ht : trItems P live ops.toList pl ⟨[], 0⟩ with
        | none => rw [ht] at hr'; cases hr'
        | some x =>
          obtain ⟨items, d⟩ := x
          rw [ht] at hr'
          cases hr'
          constructor
          intro env h e env' h' hev L B m w a r hL he hnt hd b k cs hb
          have hev' : regionEnd (writesOf live d.n d.l.reverse) env (doItems items cx.call cx.D env [] h) = .ok e env' h' := hev
          cases hdo : doItems items cx.call cx.D env [] h with
          | fail => rw [hdo] at hev'; cases hev'
          | need x y z => rw [hdo] at hev'; cases hev'
          | ok loc h₁ =>
            rw [hdo] at hev'
            cases hev'
            obtain ⟨m', a', w', s, he', hsz, hdf, hgo⟩ := region_ok (id := id) hm hcx.dec hcx.call hr hdo r hL he hnt b k cs
            exact ⟨m', a', w', s, he', hsz, by rw [hdf]; exact hd.step s, hgo⟩
  | seq x y ihx ihy =>
    intro rd
    have h1 := @ihx rd
    have h2 := @ihy rd
    exact CodeOK.next (P := P) h1 h2 (y := fun _ => .code y) (fun _ => rfl) (st₀ := fun k => .code (.seq x y) :: k) (fun b a k cs w => .one stepR_seq) (fun b a k cs w => Steps.refl _ _)
  | cond c x y ihx ihy =>
    intro rd
    have e0 : trCode P live nt rd (.cond c x y) = match trOpd live ⟨[], 0⟩ c with | some c => .cond c (trCode P live nt rd x) (trCode P live nt rd y) | none => .bad := rfl
    rw [e0]
    cases hc : trOpd live ⟨[], 0⟩ c with
    | none => exact CodeOK.fail (fun _ _ => rfl)
    | some oc =>
      constructor
      intro env h e env' h' hev L B m w a r hL he hnt hd b k cs hb
      have hev' : condOn cx.D (evC (trCode P live nt rd x) cx env h) (evC (trCode P live nt rd y) cx env h) (opd env [] oc) = .ok e env' h' := hev
      obtain ⟨t, ht, hev'⟩ := condOn_ok hcx.dec hev' (opd_env hc he)
      cases t with
      | true =>
        obtain ⟨m', a', w', s, he', hsz, hd', harr⟩ := (ihx rd).run hev' r hL he hnt hd b k cs hb
        exact ⟨m', a', w', s, he', hsz, hd', .of_steps (.one (stepR_cond ht)) harr⟩
      | false =>
        obtain ⟨m', a', w', s, he', hsz, hd', harr⟩ := (ihy rd).run hev' r hL he hnt hd b k cs hb
        exact ⟨m', a', w', s, he', hsz, hd', .of_steps (.one (stepR_cond ht)) harr⟩
  | block id x ihx =>
    intro rd
    constructor
    intro env h e env' h' hev L B m w a r hL he hnt hd b k cs hb
    have hev' : outOf id (evC (trCode P live nt rd x) cx env h) = .ok e env' h' := hev
    have hex : ∀ i, exitTo i (.inBlock id :: k) = if id == i then some k else exitTo i k := fun i => rfl
    rcases outOf_inv hev' with ⟨rfl, h1 | h1⟩ | ⟨hne, hni, h1⟩
    · obtain ⟨m', a', w', s, he', hsz, hd', harr⟩ := (ihx rd).run h1 r hL he hnt hd b (.inBlock id :: k) cs hb
      exact ⟨m', a', w', s, he', hsz, hd', (Steps.head stepR_block harr).trans (.one stepR_inBlock)⟩
    · obtain ⟨m', a', w', s, he', hsz, hd', todo, harr, hto⟩ := (ihx rd).run h1 r hL he hnt hd b (.inBlock id :: k) cs hb
      refine ⟨m', a', w', s, he', hsz, hd', (Steps.head stepR_block harr).trans (.one (stepR_exit ?_))⟩
      rw [hto, hex]; simp
    · obtain ⟨m', a', w', s, he', hsz, hd', harr⟩ := (ihx rd).run h1 r hL he hnt hd b (.inBlock id :: k) cs hb
      refine ⟨m', a', w', s, he', hsz, hd', .of_steps (.one stepR_block) ?_⟩
      cases e with
      | normal => exact absurd rfl hne
      | exit i =>
        obtain ⟨todo, g1, g2⟩ := harr
        refine ⟨todo, g1, g2.trans ?_⟩
        rw [hex, if_neg]
        intro hb; exact hni (by rw [eq_of_beq hb])
      | goto l => obtain ⟨todo, g1, g2⟩ := harr; exact ⟨todo, g1, g2⟩
      | ret => exact harr
  | loop x ihx =>
    intro rd
    have h1 := loop_ok (P := P) (A := evC (trCode P live nt rd x)) (cx := cx) (@ihx rd) 100000
    constructor
    intro env h e env' h' hev L B m w a r hL he hnt hd b k cs hb
    obtain ⟨m', a', w', s, he', hsz, hd', harr⟩ := h1.run hev r hL he hnt hd b k cs hb
    exact ⟨m', a', w', s, he', hsz, hd', .of_steps (.one stepR_loop) harr⟩
  | scope x ihx =>
    intro rd
    have h1 := scope_ok (P := P) hcx hl (body := x) (A := evC (trCode P live nt rd x)) (@ihx rd) (trCode P live nt rd x) (evC (trCode P live nt rd x))
    constructor
    intro env h e env' h' hev L B m w a r hL he hnt hd b k cs hb
    obtain ⟨m', a', w', s, he', hsz, hd', harr⟩ := h1.run hev r hL he hnt hd b k cs hb
    exact ⟨m', a', w', s, he', hsz, hd', .of_steps (.one stepR_scope) harr⟩
  | rangeFunc f ps x y ihx ihy =>
    intro rd
    have e0 : (trCode P live nt rd (.rangeFunc f ps x y)) = match rd with
        | true => .bad
        | false => match trOpd live ⟨[], 0⟩ f with
          | some f => match ps.toList.all fun t => live t with
            | true => .rangeF f (ps.toList.map Ps.ofNat) (trCode P live nt true x) (trCode P live nt true y)
            | false => .bad
          | none => .bad := rfl
    rw [e0]
    cases rd with
    | true => exact CodeOK.fail (fun _ _ => rfl)
    | false =>
      simp only []
      cases hf : trOpd live ⟨[], 0⟩ f with
      | none => exact CodeOK.fail (fun _ _ => rfl)
      | some of =>
        simp only []
        cases hps : (ps.toList.all fun t => live t) with
        | false => exact CodeOK.fail (fun _ _ => rfl)
        | true => exact rangeF_ok hcx hl hf (fun t ht => List.all_eq_true.1 hps t ht) (evC (trCode P live nt true x)) (evC (trCode P live nt true y))
end
end SX
namespace SX
open Go
set_option linter.unusedVariables false
section
variable {P : Program} {ρ : Val} {m m' : MM} {h h' : H} {w w' : World} {L : Nat} {live : Nat → Bool} {nt : Nat} {v : AV}
/-! ### parameters -/
theorem setPs_range : ∀ (n k : Nat) (as : List AV) (env : TV) (t : Nat),
    TV.get (Ps.ofNat t) (setPs ((List.range' k n).map Ps.ofNat) as env) = if k ≤ t ∧ t < k + n ∧ t - k < as.length then (as[t - k]?).getD .bot else TV.get (Ps.ofNat t) env := by
  intro n
  induction n with
  | zero => intro k as env t; rw [if_neg (by omega)]; rfl
  | succ n ih =>
    intro k as env t
    cases as with
    | nil => rw [if_neg (by simp)]; rfl
    | cons a as =>
      have e : setPs ((List.range' k (n + 1)).map Ps.ofNat) (a :: as) env = setPs ((List.range' (k + 1) n).map Ps.ofNat) as (TV.set a (Ps.ofNat k) env) := rfl
      rw [e, ih]
      by_cases htk : t = k
      · subst htk
        rw [if_neg (by omega), if_pos ⟨Nat.le_refl _, by omega, by simp⟩, TV.get_set_same]
        simp
      · rw [TV.get_set_other _ _ _ _ (fun hp => htk (Ps.ofNat_inj hp))]
        by_cases hc : k + 1 ≤ t ∧ t < k + 1 + n ∧ t - (k + 1) < as.length
        · rw [if_pos hc, if_pos ⟨by omega, by omega, by simp; omega⟩]
          rw [show t - k = (t - (k + 1)) + 1 by omega]; simp
        · rw [if_neg hc, if_neg (fun h => hc ⟨by omega, by omega, by have := h.2.2; simp at this; omega⟩)]
theorem envR_args {n : Nat} {as : List AV} {args : Array Value} (hV : Vs ρ m as args.toList) (x : Nat) : EnvR ρ m live (setPs ((List.range n).map Ps.ofNat) as .lf) (args ++ Array.replicate x undef) := by
  intro t ht
  have hlen := hV.length
  rw [List.range_eq_range', setPs_range]
  split
  · rename_i hc
    obtain ⟨h1, h2, h3⟩ := hc
    obtain ⟨u, hu, hVu⟩ := hV.get (t - 0) as[t - 0] (by simp)
    rw [List.getElem?_eq_getElem h3]
    have hu' : args[t]? = some u := by simpa using hu
    have hlt : t < args.size := (Array.getElem?_eq_some_iff.1 hu').1
    have : (args ++ Array.replicate x undef).getD t undef = u := by
      rw [Array.getD_eq_getD_getElem?, Array.getElem?_append_left hlt, hu']; rfl
    rw [this]; exact hVu
  · rw [TV.get_lf]; trivial
theorem setPs_cons (p : Nat) (ps : List Nat) (a : AV) (as : List AV) (env : TV) : setPs ((p :: ps).map Ps.ofNat) (a :: as) env = setPs (ps.map Ps.ofNat) as (TV.set a (Ps.ofNat p) env) := rfl
theorem envR_yield : ∀ {ps : List Nat} {as : List AV} {args : List Value} {env : TV} {tmps : Array Value}, Vs ρ m as args → EnvR ρ m live env tmps → (∀ t, live t = true → t < nt) → nt ≤ tmps.size →
    EnvR ρ m live (setPs (ps.map Ps.ofNat) as env) ((ps.zip args).foldl (fun tmps (t, a) => tmps.setIfInBounds t a) tmps) ∧ nt ≤ ((ps.zip args).foldl (fun tmps (t, a) => tmps.setIfInBounds t a) tmps).size := by
  intro ps
  induction ps with
  | nil => intro as args env tmps hV he hl hn; exact ⟨he, hn⟩
  | cons p ps ih =>
    intro as args env tmps hV he hl hn
    cases as with
    | nil => have : args = [] := hV; subst this; exact ⟨he, hn⟩
    | cons a as =>
      obtain ⟨u, us, rfl, h1, h2⟩ := hV
      rw [setPs_cons]
      show EnvR ρ m live _ ((ps.zip us).foldl _ (tmps.setIfInBounds p u)) ∧ _
      refine ih h2 (fun t ht => ?_) hl (by simpa using hn)
      by_cases htp : t = p
      · subst htp
        rw [TV.get_set_same]
        have : t < tmps.size := Nat.lt_of_lt_of_le (hl t ht) hn
        simp [this]; exact h1
      · rw [TV.get_set_other _ _ _ _ (fun hp => htp (Ps.ofNat_inj hp))]
        have := he t ht
        simp [Array.getElem?_setIfInBounds_ne (Ne.symm htp)]
        simpa using this
/-! ### results -/
theorem run_mapM {α : Type} {f : α → Sem Value} {g : α → Value} : ∀ {l : List α}, (∀ x ∈ l, (f x).run P w = .ok (g x) w) → (l.mapM f).run P w = .ok (l.map g) w := by
  intro l
  induction l with
  | nil => intro _; simp
  | cons x l ih =>
    intro hf
    rw [List.mapM_cons]
    simp only [Sem.run_bind, hf x (List.mem_cons_self ..), Result.andThen, ih (fun y hy => hf y (List.mem_cons_of_mem _ hy)), Sem.run_pure, List.map_cons]
def resSem (tmps : Array Value) : ResultVar → Sem Value
  | .tmp t => pure (tmps.getD t undef)
  | .cell a t => do loadVar t (← asAddr (tmps.getD a undef))
theorem run_results {fn : Func} {tmps : Array Value} {g : ResultVar → Value} (hf : ∀ x ∈ fn.results.toList, (resSem tmps x).run P w = .ok (g x) w) :
    (results fn tmps).run P w = .ok (match fn.results.toList.map g with | [v] => v | l => .tuple l.toArray) w := by
  show (do let vs ← fn.results.mapM (resSem tmps); pure (if h : vs.size = 1 then vs[0] else .tuple vs) : Sem Value).run P w = _
  rw [Array.mapM_eq_mapM_toList]
  simp only [Sem.run_bind, Sem.run_map, run_mapM hf, Result.andThen, Sem.run_pure]
  generalize fn.results.toList.map g = l
  cases l with
  | nil => rfl
  | cons x l => cases l with
    | nil => rfl
    | cons y l => simp
theorem onRow_inv {b : Blk} {k : Bool → List AV → RV} {u : AV} {hh : H} (e : onRow k b = .ok u hh) : ∃ r c, b = .row r c ∧ k r c = .ok u hh := by
  cases b with
  | row r c => exact ⟨r, c, rfl, e⟩
  | _ => cases e
/-- one result -/
theorem res_ok (r : Rel P ρ m h w) {x : ResultVar} {xr : XRes} (hx : trRes P x = some xr) {env : TV} {tmps : Array Value} (he : EnvR ρ m live env tmps) (hl : live (resTmp x) = true)
    {k : AV → RV} {u : AV} {hh : H} (e : resOf xr h env k = .ok u hh) : ∃ a g, k a = .ok u hh ∧ V ρ m a g ∧ (resSem tmps x).run P w = .ok g w := by
  cases x with
  | tmp t =>
    cases hx
    exact ⟨_, _, e, he t hl, rfl⟩
  | cell a t =>
    have hx' : (tagg P t).map (fun n => match n with | none => XRes.c1 (Ps.ofNat a) | some n => .cN (Ps.ofNat a) n) = some xr := hx
    have hV := he a hl
    cases ht : tagg P t with
    | none => rw [ht] at hx'; cases hx'
    | some n =>
      rw [ht] at hx'
      cases n with
      | none =>
        cases hx'
        obtain ⟨p, o, hv, e1⟩ := onPtr_ok e
        obtain ⟨ro, cells, h2, e2⟩ := rows_ok e1
        obtain ⟨hb, e3⟩ := bV_yes e2
        have hlt : o < cells.length := (hasL_iff _ _).1 hb
        rw [hv] at hV
        obtain ⟨c, b, z, hm, ex⟩ := hV
        obtain ⟨u', hu, hVu, _⟩ := row_cell r hm h2 (i := o) (x := cells[o]) (by simp)
        refine ⟨_, u', e3, by rw [getL_eq, List.getElem?_eq_getElem hlt]; exact hVu, ?_⟩
        simp [resSem, asAddr, ex, loadVar, (run_isAgg ht).1, hu]
      | some n =>
        cases hx'
        obtain ⟨p, o, hv, e1⟩ := onPtr_ok e
        obtain ⟨ro, cells, h2, h3, e2⟩ := readN_ok e1
        rw [hv] at hV
        obtain ⟨c, b, z, hm, ex⟩ := hV
        obtain ⟨l, h4, h5, h6, h7⟩ := row_cells r hm h2 o n h3
        refine ⟨_, .agg l.toArray, e2, ⟨l.toArray, rfl, by simpa using h5, fun u hu => h6 u (by simpa using hu)⟩, ?_⟩
        have hrun := run_loadCells (P := P) (w := w) ⟨c, b + o, none⟩ c (b + o) rfl l h7
        rw [h4] at hrun
        simp [resSem, asAddr, ex, loadVar, (run_isAgg ht).1, (run_isAgg ht).2 n rfl, hrun]
theorem resAll_ok (r : Rel P ρ m h w) {env : TV} {tmps : Array Value} (he : EnvR ρ m live env tmps) : ∀ {l : List ResultVar} {rs : List XRes} {acc : List AV} {accv : List Value} {u : AV} {hh : H},
    mapO (trRes P) l = some rs → (∀ x ∈ l, live (resTmp x) = true) → Vs ρ m acc.reverse accv → resAll h env rs acc = .ok u hh →
    ∃ gs : List Value, (∃ g : ResultVar → Value, gs = l.map g ∧ ∀ x ∈ l, (resSem tmps x).run P w = .ok (g x) w) ∧ hh = h ∧ V ρ m u (match accv ++ gs with | [v] => v | l => .tuple l.toArray) := by
  intro l
  induction l with
  | nil =>
    intro rs acc accv u hh hrs hl hacc e
    cases hrs
    refine ⟨[], ⟨fun _ => undef, rfl, fun x hx => by cases hx⟩, ?_⟩
    have e' : tupR h acc.reverse = .ok u hh := e
    rw [List.append_nil]
    generalize acc.reverse = l' at e' hacc
    cases l' with
    | nil => cases e'; have : accv = [] := hacc; subst this; exact ⟨rfl, #[], rfl, rfl⟩
    | cons a l' =>
      obtain ⟨v, vs, rfl, h1, h2⟩ := hacc
      cases l' with
      | nil => cases e'; have : vs = [] := h2; subst this; exact ⟨rfl, h1⟩
      | cons a' l' =>
        cases e'
        obtain ⟨v', vs', rfl, h3, h4⟩ := h2
        exact ⟨rfl, _, rfl, v, _, rfl, h1, v', vs', rfl, h3, h4⟩
  | cons x l ih =>
    intro rs acc accv u hh hrs hl hacc e
    rw [mapO] at hrs
    cases hx : trRes P x with
    | none => rw [hx] at hrs; cases hrs
    | some xr =>
      rw [hx] at hrs
      cases hls : mapO (trRes P) l with
      | none => rw [hls] at hrs; cases hrs
      | some rs' =>
        rw [hls] at hrs
        cases hrs
        obtain ⟨a, g, e1, hVa, hrun⟩ := res_ok r hx he (hl x (List.mem_cons_self ..)) (k := fun v => resAll h env rs' (v :: acc)) e
        obtain ⟨gs, ⟨gf, hgs, hgr⟩, h1, h2⟩ := ih (accv := accv ++ [g]) hls (fun y hy => hl y (List.mem_cons_of_mem _ hy)) (by rw [List.reverse_cons]; exact hacc.append ⟨g, [], rfl, hVa, rfl⟩) e1
        have hgx : ∀ y ∈ x :: l, ∃ gy, (resSem tmps y).run P w = .ok gy w := fun y hy => by
          rcases List.mem_cons.1 hy with rfl | hy
          · exact ⟨g, hrun⟩
          · exact ⟨_, hgr y hy⟩
        let G : ResultVar → Value := fun y => match (resSem tmps y).run P w with | .ok v _ => v | _ => undef
        have hG : ∀ y gy, (resSem tmps y).run P w = .ok gy w → G y = gy := fun y gy hy => by show (match (resSem tmps y).run P w with | .ok v _ => v | _ => undef) = gy; rw [hy]
        refine ⟨g :: gs, ⟨G, ?_, fun y hy => ?_⟩, h1, ?_⟩
        · rw [List.map_cons, hG x g hrun, hgs]
          congr 1
          exact List.map_congr_left fun y hy => (hG y _ (hgr y hy)).symm
        · obtain ⟨gy, hgy⟩ := hgx y hy
          rw [hG y gy hgy]; exact hgy
        · rw [List.append_assoc] at h2; exact h2
end
end SX
namespace SX
open Go
set_option linter.unusedVariables false
section
variable {P : Program} {ρ : Val} {m m' m₁ : MM} {h h' h₁ : H} {w w' w₁ w₂ : World} {L : Nat} {live : Nat → Bool} {nt : Nat} {v : AV}
/-- blocks that are younger, and stand for nothing, are free -/
theorem Step.loose (s : Step P ρ L m h w m₁ h₁ w₁) (hsz : w₂.heap.size = w₁.heap.size) (rs : Nat → Prop) (hrs : ∀ r, rs r → w.heap.size ≤ r ∧ ∀ p x, m₁ p = some x → x.1 ≠ r) (ho : ∀ i, ¬ rs i → w₂.heap[i]? = w₁.heap[i]?)
    (htp : w₂.tape = w₁.tape ∧ w₂.os = w₁.os ∧ w₂.output = w₁.output) : Step P ρ L m h w m₁ h₁ w₂ where
  ext := s.ext
  rel := {
    blk := fun p c b z hp => by
      obtain ⟨h1, h2⟩ := s.rel.blk p c b z hp
      exact ⟨by omega, h2.mono (Ext.refl _) (ho c fun hr => (hrs c hr).2 p _ hp rfl)⟩
    inj := s.rel.inj
    fresh := s.rel.fresh }
  size := by have := s.size; omega
  framed c hc hm := by
    rw [ho c fun hr => by have := (hrs c hr).1; omega]; exact s.framed c hc hm
  tape := ⟨htp.1.trans s.tape.1, htp.2.1.trans s.tape.2.1, htp.2.2.trans s.tape.2.2⟩
  next := s.next
  still := s.still
  news := s.news
  ro := s.ro
theorem step_mark {fr : Frame} {cs : List Frame} {r : Nat} {ds : List Deferred} (hm : fr.mode = .returning) (hd : fr.defers = markOf r :: ds) (hr : w.heap[r]? = some (.deferred (some []))) :
    step P (lone fr cs w) = .next (lone { fr with defers := ds } cs (w.putObj r (.deferred none))) :=
  step_lone_go (by
    have := run_takeDeferred (P := P) hr
    simp [stepG, unwind, hm, hd, markOf, Sem.runT_eq, this, GStep.bare_after])
theorem unwind_marks {cs : List Frame} : ∀ (rs : List Nat) (w : World) (fr : Frame), fr.mode = .returning → fr.defers = rs.map markOf → rs.Nodup → (∀ r ∈ rs, w.heap[r]? = some (.deferred (some []))) →
    ∃ w', (∀ fr : Frame, fr.mode = .returning → fr.defers = rs.map markOf → ∀ cs, Steps P (lone fr cs w) (lone { fr with defers := [] } cs w')) ∧ w'.heap.size = w.heap.size ∧ (∀ i, i ∉ rs → w'.heap[i]? = w.heap[i]?) ∧ w'.tape = w.tape ∧ w'.os = w.os ∧ w'.output = w.output := by
  intro rs
  induction rs with
  | nil =>
    intro w fr hm hd _ _
    refine ⟨w, fun fr hm hd cs => ?_, rfl, fun _ _ => rfl, rfl, rfl, rfl⟩
    have : ({ fr with defers := [] } : Frame) = fr := by have hd' : fr.defers = [] := hd; cases fr; simp at hd' ⊢; exact hd'
    rw [this]; exact Steps.refl _ _
  | cons r rs ih =>
    intro w fr hm hd hn hr
    obtain ⟨hn1, hn2⟩ := List.nodup_cons.1 hn
    have hr0 := hr r (List.mem_cons_self ..)
    obtain ⟨w', h1, h2, h3, h4⟩ := ih (w.putObj r (.deferred none)) { fr with defers := rs.map markOf } hm rfl hn2 (fun r' hr' => by
      rw [World.putObj_heap_other (fun (e : r' = r) => hn1 (e ▸ hr'))]; exact hr r' (List.mem_cons_of_mem _ hr'))
    refine ⟨w', fun fr hm hd cs => ?_, by rw [h2]; exact World.putObj_size, fun i hi => ?_, h4⟩
    · exact .head (step_mark hm hd hr0) (h1 { fr with defers := rs.map markOf } hm rfl cs)
    · rw [h3 i (fun h => hi (List.mem_cons_of_mem _ h)), World.putObj_heap_other (fun (e : i = r) => hi (by rw [e]; exact List.mem_cons_self ..))]
/-- a function comes to its end -/
def Leaves (P : Program) (f : FuncId) (args : Array Value) (w : World) (cs : List Frame) (v : Value) (w' : World) : Prop :=
  ∃ fr, Steps P (lone (Frame.enter P f args .normal) cs w) (lone fr cs w') ∧ fr.fn = f ∧ fr.leaving P w' (.returned v)
theorem Leaves.back {f : FuncId} {args : Array Value} {v : Value} {c : Frame} {cs : List Frame} (hl : Leaves P f args w (c :: cs) v w') : Steps P (lone ((Start.fn f args).frame P) (c :: cs) w) (lone (c.finish v) cs w') := by
  obtain ⟨fr, h1, h2, h3⟩ := hl
  exact Steps.trans h1 (.one (step_leave_returned h3))
theorem calls_leaves {f : FuncId} {args : Array Value} {R : Value → World → Prop} (hl : ∀ cs, ∃ v w', R v w' ∧ Leaves P f args w cs v w') : Calls P f args w fun e w' => ∃ v, e = .returned v ∧ R v w' := by
  intro cs
  obtain ⟨v, w', hR, fr, h1, h2, h3⟩ := hl cs
  exact ⟨.returned v, w', fr, ⟨v, rfl, hR⟩, h1, h2, h3⟩
theorem leaves_calls {f : FuncId} {args : Array Value} {R : Value → World → Prop} (hl : Calls P f args w fun e w' => ∃ v, e = .returned v ∧ R v w') (cs : List Frame) : ∃ v w', R v w' ∧ Leaves P f args w cs v w' := by
  obtain ⟨e, w', fr, ⟨v, rfl, hR⟩, h1, h2, h3⟩ := hl cs
  exact ⟨v, w', hR, fr, h1, h2, h3⟩
theorem fnEnd_inv {rs : List XRes} {r : RC} {u : AV} {hh : H} (e : fnEnd rs r = .ok u hh) : ∃ env h, (r = .ok .normal env h ∨ r = .ok .ret env h) ∧ resAll h env rs [] = .ok u hh := by
  cases r with
  | ok x env h =>
    cases x with
    | normal => exact ⟨env, h, .inl rfl, e⟩
    | ret => exact ⟨env, h, .inr rfl, e⟩
    | exit i => cases e
    | goto i => cases e
  | fail => cases e
  | need x y z => cases e
theorem trFunc_inv {fn : Func} {xf : XFunc} (ht : trFunc P fn = some xf) : ∃ body live, fn.body = some body ∧ (∀ t, live t = true → t < fn.ntmps) ∧ (∀ x ∈ fn.results.toList, live (resTmp x) = true) ∧ fn.name ≠ "runtime.NumGoroutine" ∧
    mapO (trRes P) fn.results.toList = some xf.results ∧ xf.params = (List.range (fn.params.size + fn.nfree)).map Ps.ofNat ∧ xf.body = trCode P live fn.ntmps false body := by
  obtain ⟨body, hb, ht⟩ := bind_inv ht
  simp only at ht
  split at ht
  · cases ht
  · rename_i hc
    simp only [Bool.and_eq_true] at hc
    cases hr : mapO (trRes P) fn.results.toList with
    | none => rw [hr] at ht; cases ht
    | some rs =>
      rw [hr] at ht; cases ht
      refine ⟨body, _, hb, fun t hl => ?_, fun x hx => ?_, by simpa using hc.2, rfl, rfl, rfl⟩
      · exact Nat.le_of_ble_eq_true (List.all_eq_true.1 hc.1 t (by simpa using hl))
      · simp only [List.contains_eq_mem, decide_eq_true_iff, List.mem_eraseDups]
        exact List.mem_append_right _ (List.mem_map_of_mem hx)
theorem enter_eq {f : FuncId} {fn : Func} {c : Code} {args : Array Value} (hf : P.funcs[f]? = some fn) (hb : fn.body = some c) :
    Frame.enter P f args .normal = ({ (default : Frame) with fn := f, kind := .normal } : Frame).atR { tmps := args ++ Array.replicate (fn.ntmps - args.size) undef, defers := [] } [.code c] := by
  simp [Frame.enter, Frame.atR, hf, hb]
  rfl
/-- **a function** -/
theorem func_ok (hmx : P.follows .mixedOrders = true) {cx : Cx} (hcx : CxOK P ρ cx) {f : FuncId} {fn : Func} {xf : XFunc} (hf : P.funcs[f]? = some fn) (ht : trFunc P fn = some xf) {as : List AV} {v : AV}
    (e : fnEnd xf.results (evC xf.body cx (setPs xf.params as .lf) h) = .ok v h') (r : Rel P ρ m h w) (hL : L ≤ h.next.toNat) {args : Array Value} (hV : Vs ρ m as args.toList) (cs : List Frame) :
    ∃ m' w' v', Step P ρ L m h w m' h' w' ∧ V ρ m' v v' ∧ Leaves P f args w cs v' w' := by
  obtain ⟨body, live, hb, hlt, hlr, _, hres, hpar, hbody⟩ := trFunc_inv ht
  obtain ⟨env, h₁, hr, hall⟩ := fnEnd_inv e
  rw [hbody, hpar] at hr
  let b : Frame := { (default : Frame) with fn := f, kind := .normal }
  let a : Act := { tmps := args ++ Array.replicate (fn.ntmps - args.size) undef, defers := [] }
  have henter : Frame.enter P f args .normal = b.atR a [.code body] := enter_eq hf hb
  have hnt : fn.ntmps ≤ a.tmps.size := by show fn.ntmps ≤ (args ++ Array.replicate (fn.ntmps - args.size) undef).size; simp; omega
  have hdd : DefOK w.heap.size m w a.defers := DefOK.nil (Nat.le_refl _)
  -- to the return
  have main : ∃ (m₁ : MM) (a₁ : Act) (w₁ : World), Step P ρ L m h w m₁ h₁ w₁ ∧ EnvR ρ m₁ live env a₁.tmps ∧ DefOK w.heap.size m₁ w₁ a₁.defers ∧
      ∃ fr : Frame, Steps P (lone (Frame.enter P f args .normal) cs w) (lone fr cs w₁) ∧ fr.fn = f ∧ fr.mode = .returning ∧ fr.kind = .normal ∧ fr.tmps = a₁.tmps ∧ fr.defers = a₁.defers := by
    have hc := code_ok (P := P) hmx hcx hlt body false
    rcases hr with hr | hr
    · obtain ⟨m₁, a₁, w₁, s, he₁, hsz, hd₁, harr⟩ := hc.run hr r hL (envR_args hV _) hnt hdd b [] cs (fun _ => rfl)
      refine ⟨m₁, a₁, w₁, s, he₁, hd₁, { b.atR a₁ [] with mode := .returning }, ?_, rfl, rfl, rfl, rfl, rfl⟩
      rw [henter]; exact Steps.trans harr (.one (stepR_end rfl))
    · obtain ⟨m₁, a₁, w₁, s, he₁, hsz, hd₁, harr⟩ := hc.run hr r hL (envR_args hV _) hnt hdd b [] cs (fun _ => rfl)
      refine ⟨m₁, a₁, w₁, s, he₁, hd₁, ?_⟩
      obtain ⟨todo, hs⟩ := harr
      refine ⟨{ b.atR a₁ (.code .ret :: todo) with mode := .returning }, ?_, rfl, rfl, rfl, rfl, rfl⟩
      rw [henter]; exact Steps.trans hs (.one (stepR_ret rfl))
  obtain ⟨m₁, a₁, w₁, s, he₁, ⟨_, rs, hrs, hnd, hrr⟩, hgo⟩ := main
  obtain ⟨w₂, hun, hsz, ho, htp⟩ := unwind_marks (P := P) (cs := []) rs w₁ { (default : Frame) with mode := .returning, defers := rs.map markOf } rfl rfl hnd (fun r hr => (hrr r hr).2.2.1)
  have s₂ := s.loose hsz (fun r => r ∈ rs) (fun r hr => ⟨(hrr r hr).1, (hrr r hr).2.2.2⟩) ho htp
  obtain ⟨gs, ⟨g, hgs, hgr⟩, hh, hVg⟩ := resAll_ok (acc := []) (accv := []) s₂.rel he₁ hres hlr rfl hall
  subst hh
  refine ⟨m₁, w₂, _, s₂, hVg, ?_⟩
  obtain ⟨fr, h1, h2, h3, h4, h5, h6⟩ := hgo
  refine ⟨{ fr with defers := [] }, Steps.trans h1 (hun fr h3 (by rw [h6, hrs]) cs), h2, h3, rfl, h4, fn, by show P.funcs[fr.fn]? = _; rw [h2]; exact hf, ?_⟩
  show (results fn fr.tmps).run P w₂ = _
  rw [h5, run_results hgr, ← hgs]
  rfl
theorem run_callFunc {f : FuncId} {fn : Func} {xf : XFunc} (hf : P.funcs[f]? = some fn) (ht : trFunc P fn = some xf) (args : Array Value) (w : World) : (callFunc f args).run P w = .ok (.enter f args) w := by
  obtain ⟨body, live, hb, _, _, hn, _⟩ := trFunc_inv ht
  simp [callFunc, hf, hb, hn]
theorem run_callSem {f : FuncId} {first caps args : Array Value} (hc : ∀ args w, (callFunc f args).run P w = .ok (.enter f args) w) (w : World) :
    (callSem (.func (.func f) first caps) args).run P w = .ok (.enter f ((first ++ args) ++ caps)) w := by
  simp [callSem, Deferred.ofValue, invoke, hc]
end
end SX
namespace SX
open Go
set_option linter.unusedVariables false
section
variable {P : Program} {ρ : Val} {m m' m₁ : MM} {h h' h₁ : H} {w w' w₁ w₂ : World} {L : Nat} {live : Nat → Bool} {nt : Nat} {v : AV}
theorem round_eq (l : Nat) (f : FuncId) (tmps : Array Value) (as body : Code) : Frame.round l f tmps as body .normal =
    ({ (default : Frame) with fn := f, kind := .normal, roundOf := some l } : Frame).atR { tmps := tmps, defers := [] } [.code as, .beginRound, .code body] := by
  simp [Frame.round, Frame.atR]
theorem run_callYield (l : Nat) (args : Array Value) {R : Loop} (h : w.heap[l]? = some (.loop R)) (hs : args.size = R.params.size) :
    (callSem (.func (.yield l) #[] #[]) args).run P w = .ok (.round l R.fn ((R.params.zip args).foldl (fun tmps (t, a) => tmps.setIfInBounds t a) R.tmps) R.assign R.body) w := by
  simp [callSem, Deferred.ofValue, invoke, run_yield h hs]
theorem zip_fold (ps : Array Tmp) (args : Array Value) (tmps : Array Value) : (ps.zip args).foldl (fun tmps (t, a) => tmps.setIfInBounds t a) tmps = (ps.toList.zip args.toList).foldl (fun tmps (t, a) => tmps.setIfInBounds t a) tmps := by
  rw [← Array.foldl_toList, Array.toList_zip]
def exSB : Ex → SB | .normal => .t | _ => .f
def exSt : Ex → Nat | .normal => 0 | _ => 2
def jumpOf : Ex → Option Code | .normal => none | .exit id => some (.exit id) | .goto l => some (.goto l) | .ret => some .ret
theorem pendR_jump (e : Ex) : pendR e (jumpOf e) := by cases e <;> rfl
/-- **a round** -/
theorem yield_ok (hmx : P.follows .mixedOrders = true) {cx : Cx} (hcx : CxOK P ρ cx) {p : Ps} {as : List AV} (e : runY cx p as h = .ok v h') (r : Rel P ρ m h w) (hL : L ≤ h.next.toNat) {fv : Value} (hf : V ρ m (.yield p) fv) {args : Array Value}
    (hV : Vs ρ m as args.toList) :
    ∃ s : Start, (callSem fv args).run P w = .ok s.next w ∧ ∀ (fr : Frame) (cs : List Frame), ∃ m' w' v', Step P ρ L m h w m' h' w' ∧ V ρ m' v v' ∧ Steps P (lone (s.frame P) (fr :: cs) w) (lone (fr.finish v') cs w') := by
  obtain ⟨c, b, z, hmp, rfl⟩ := hf
  unfold runY at e
  split at e
  · rename_i q env ps A B hblk
    split at e
    · cases e
    · rename_i hlen
      obtain ⟨R, hR1, hR2⟩ := loop_blk r hmp hblk
      obtain ⟨g1, g2, g3, lv, nt, g4, g5, g6, g7, g8, g9⟩ := hR2
      have hstate : R.state = .ready := by cases hs : R.state <;> rw [hs] at g1 <;> first | rfl | cases g1
      have hsz : args.size = R.params.size := by
        have h1 := Nat.eq_of_beq_eq_true hlen
        rw [lenL_eq] at h1
        have h2 := hV.length
        have h3 : R.params.toList.length = ps.length := by rw [← g3]; simp
        simp at h2 h3
        omega
      have hrun := run_callYield (P := P) (w := w) c args hR1 hsz
      rw [zip_fold] at hrun
      obtain ⟨he, hn⟩ := envR_yield (ps := R.params.toList) hV g6 g8 g9
      rw [g3] at he
      generalize (R.params.toList.zip args.toList).foldl (fun tmps (t, a) => tmps.setIfInBounds t a) R.tmps = T at hrun he hn
      subst g4 g5
      refine ⟨.round c R.fn T R.assign R.body, hrun, fun fr cs => ?_⟩
      let b₀ : Frame := { (default : Frame) with fn := R.fn, kind := .normal, roundOf := some c }
      have hstart : lone (Frame.round c R.fn T R.assign R.body .normal) (fr :: cs) w = lone (b₀.atR { tmps := T, defers := [] } [.code R.assign, .beginRound, .code R.body]) (fr :: cs) w := by rw [round_eq]
      split at e
      · cases e
      · rename_i env' h₁ hA
        obtain ⟨m₁, a₁, w₁, s₁, he₁, hsz₁, hd₁, harr₁⟩ := (code_ok (P := P) hmx hcx g8 R.assign true).run (a := { tmps := T, defers := [] }) (B := w.heap.size) hA r hL he hn (DefOK.nil (Nat.le_refl _)) b₀ [.beginRound, .code R.body] (fr :: cs) (fun h => by cases h)
        split at e
        · rename_i q₁ env₁ ps₁ A₁ B₁ hblk₁
          have hmp₁ := s₁.ext _ _ hmp
          obtain ⟨R₁, hR₁1, hR₁2⟩ := loop_blk s₁.rel hmp₁ hblk₁
          obtain ⟨k1, k2, k3, lv₁, nt₁, k4, k5, k6, k7, k8, k9⟩ := hR₁2
          have hstate₁ : R₁.state = .ready := by cases hs : R₁.state <;> rw [hs] at k1 <;> first | rfl | cases k1
          have hbegin := run_beginRound (P := P) hR₁1 hstate₁
          have s₂ := loop_put (L := L) s₁.rel hmp₁ hblk₁ (st' := 1) (pend' := q₁) (R' := { R₁ with state := .busy }) hR₁1 ⟨rfl, k2, k3, lv₁, nt₁, k4, k5, k6, k7, k8, k9⟩
          generalize w₁.putObj c (.loop { R₁ with state := .busy }) = w₂ at hbegin s₂
          have s₁₂ := s₁.trans s₂
          split at e
          · cases e
          · rename_i ex env₂ h₂ hB
            obtain ⟨m₃, a₃, w₃, s₃, he₃, hsz₃, hd₃, harr₃⟩ := (code_ok (P := P) hmx hcx g8 R.body true).run hB s₂.rel (Nat.le_trans hL s₁₂.next) (he₁.mono s₂.ext) (by rw [hsz₁]; exact hn) (hd₁.step s₂) b₀ [] (fr :: cs) (fun h => by cases h)
            split at e
            · rename_i q₂ env₃ ps₂ A₂ B₂ hblk₂
              have hmp₂ := s₃.ext _ _ (s₂.ext _ _ hmp₁)
              obtain ⟨R₂, hR₂1, hR₂2⟩ := loop_blk s₃.rel hmp₂ hblk₂
              obtain ⟨j1, j2, j3, lv₂, nt₂, j4, j5, j6, j7, j8, j9⟩ := hR₂2
              have hend : ∀ jump, (Instr.endRound c jump).run P w₃ = .ok (.bool jump.isNone) (w₃.putObj c (.loop { R₂ with state := if jump.isNone then .ready else .done, pending := jump })) := fun jump => run_endRound (P := P) jump hR₂1
              have s₄ := loop_put (L := L) s₃.rel hmp₂ hblk₂ (st' := exSt ex) (pend' := ex) (R' := { R₂ with state := if (jumpOf ex).isNone then .ready else .done, pending := jumpOf ex }) hR₂1
                ⟨by cases ex <;> rfl, pendR_jump ex, j3, lv₂, nt₂, j4, j5, j6, j7, j8, j9⟩
              have hend' := hend (jumpOf ex)
              generalize w₃.putObj c (.loop { R₂ with state := if (jumpOf ex).isNone then .ready else .done, pending := jumpOf ex }) = w₄ at hend' s₄
              have sall := (s₁₂.trans s₃).trans s₄
              have hfin : v = .bool (exSB ex) ∧ h' = h₂.put p (.loop (exSt ex) ex env₃ ps₂ A₂ B₂) := by
                cases ex <;> (cases e; exact ⟨rfl, rfl⟩)
              obtain ⟨rfl, rfl⟩ := hfin
              refine ⟨m₃, w₄, .bool (jumpOf ex).isNone, sall, by cases ex <;> rfl, ?_⟩
              have hgo : Steps P (lone (Frame.round c R.fn T R.assign R.body .normal) (fr :: cs) w) (lone (b₀.atR a₁ [.code R.body]) (fr :: cs) w₂) := by
                rw [hstart]
                exact Steps.trans harr₁ (.one (stepR_beginRound rfl hbegin))
              refine Steps.trans hgo ?_
              have harr := harr₃
              cases ex with
              | normal => exact Steps.trans harr (.one (stepR_round_end rfl rfl hend'))
              | ret =>
                obtain ⟨todo, g⟩ := harr
                exact Steps.trans g (.one (stepR_round_ret rfl rfl hend'))
              | exit id =>
                obtain ⟨todo, g, hx⟩ := harr
                exact Steps.trans g (.one (stepR_round_exit rfl rfl hx hend'))
              | goto l =>
                obtain ⟨todo, g, hx⟩ := harr
                exact Steps.trans g (.one (stepR_round_goto rfl rfl hx hend'))
            · cases e
          · cases e
        · cases e
      · cases e
  · cases e
/-- what is asked of what is known of functions -/
structure KnownOK (P : Program) (ρ : Val) (K : Known) : Prop where
  dec : DecOK ρ K.D
  fn : ∀ f, K.spec f = none → (∃ fn, P.funcs[f]? = some fn ∧ trFunc P fn = some (K.fn f)) ∨ (K.fn f).body = .bad
  spec : ∀ f s, K.spec f = some s → ∀ {as : List AV} {h h' : H} {v : AV}, s as h = .ok v h' → ∀ {L : Nat} {m : MM} {w : World} {args : Array Value}, Rel P ρ m h w → L ≤ h.next.toNat → Vs ρ m as args.toList →
    (callFunc f args).run P w = .ok (.enter f args) w ∧ ∀ cs, ∃ m' w' v', Step P ρ L m h w m' h' w' ∧ V ρ m' v v' ∧ Leaves P f args w cs v' w'
theorem callFunc_sem {f : FuncId} {first caps args : Array Value} (hc : (callFunc f ((first ++ args) ++ caps)).run P w = .ok (.enter f ((first ++ args) ++ caps)) w) :
    (callSem (.func (.func f) first caps) args).run P w = .ok (.enter f ((first ++ args) ++ caps)) w := by
  simp only [Array.append_assoc] at hc
  simp [callSem, Deferred.ofValue, invoke, hc]
/-- a call of a function by its number -/
theorem runF_ok (hmx : P.follows .mixedOrders = true) {K : Known} (hK : KnownOK P ρ K) {cx : Cx} (hcx : CxOK P ρ cx) {f : FuncId} {as : List AV} (e : runF K cx f as h = .ok v h') (r : Rel P ρ m h w) (hL : L ≤ h.next.toNat) {args : Array Value}
    (hV : Vs ρ m as args.toList) : (callFunc f args).run P w = .ok (.enter f args) w ∧ ∀ cs, ∃ m' w' v', Step P ρ L m h w m' h' w' ∧ V ρ m' v v' ∧ Leaves P f args w cs v' w' := by
  unfold runF at e
  cases hs : K.spec f with
  | some s => rw [hs] at e; exact hK.spec f s hs e r hL hV
  | none =>
    rw [hs] at e
    have e : fnEnd (K.fn f).results (evC (K.fn f).body cx (setPs (K.fn f).params as .lf) h) = .ok v h' := e
    rcases hK.fn f hs with ⟨fn, hf, ht⟩ | hbad
    · exact ⟨run_callFunc hf ht args w, fun cs => func_ok hmx hcx hf ht e r hL hV cs⟩
    · rw [hbad] at e; cases e
theorem callOn_ok' (hmx : P.follows .mixedOrders = true) {K : Known} (hK : KnownOK P ρ K) {cx : Cx} (hcx : CxOK P ρ cx) : CallOK P ρ (fun f as h => callOn K cx as h f) := by
  intro f as h h' v e L m w fv avs r hL hf hV
  cases f with
  | func f fs cs =>
    obtain ⟨a, b, rfl, h1, h2⟩ := hf
    have e' : runF K cx f (appL fs (appL as cs)) h = .ok v h' := e
    have hV' : Vs ρ m (appL fs (appL as cs)) ((a ++ avs) ++ b).toList := by
      rw [appL_eq, appL_eq, Array.toList_append, Array.toList_append, List.append_assoc]
      exact h1.append (hV.append h2)
    obtain ⟨g3, g4⟩ := runF_ok hmx hK hcx e' r hL hV'
    refine ⟨.fn f ((a ++ avs) ++ b), callFunc_sem g3, fun c cs => ?_⟩
    obtain ⟨m', w', v', g1, g2, g5⟩ := g4 (c :: cs)
    exact ⟨m', w', v', g1, g2, g5.back⟩
  | yield p => exact yield_ok hmx hcx (show runY cx p as h = .ok v h' from e) r hL hf hV
  | _ => have e' : RV.fail = RV.ok v h' := e; cases e'
theorem cxN_ok (hmx : P.follows .mixedOrders = true) {K : Known} (hK : KnownOK P ρ K) : ∀ n, CxOK P ρ (cxN n K) := by
  intro n
  induction n with
  | zero => exact ⟨fun e => (nomatch e), hK.dec, fun live nt rd hl body rest => ⟨fun e => (nomatch e)⟩⟩
  | succ n ih =>
    refine ⟨callOn_ok' hmx hK ih, hK.dec, fun live nt rd hl body rest => ?_⟩
    exact scope_ok (P := P) ih hl (A := evC (trCode P live nt rd rest)) (code_ok hmx ih hl rest rd) (trCode P live nt rd rest) (evC (trCode P live nt rd body))
/-- **THE EXECUTOR IS SOUND** -/
theorem run_ok (hmx : P.follows .mixedOrders = true) {K : Known} (hK : KnownOK P ρ K) {n : Nat} {f : FuncId} {as : List AV} (e : run K n f as h = .ok v h') (r : Rel P ρ m h w) (hL : L ≤ h.next.toNat) {args : Array Value} (hV : Vs ρ m as args.toList) :
    (callFunc f args).run P w = .ok (.enter f args) w ∧ ∀ cs, ∃ m' w' v', Step P ρ L m h w m' h' w' ∧ V ρ m' v v' ∧ Leaves P f args w cs v' w' := by
  cases n with
  | zero => cases e
  | succ n =>
    have e' : runF K (cxN n K) f (appL [] (appL as [])) h = .ok v h' := e
    have ha : appL [] (appL as []) = as := by rw [appL_eq, appL_eq, List.nil_append, List.append_nil]
    rw [ha] at e'
    exact runF_ok hmx hK (cxN_ok hmx hK n) e' r hL hV
end
end SX
namespace SX
open Go
set_option linter.unusedVariables false
/-! ### functions by their numbers -/
inductive FT where | nil | leaf (i : Nat) (x : XFunc) | node (m : Nat) (l r : FT)
def badF : XFunc := ⟨[], [], .bad⟩
noncomputable def FT.get (t : FT) : Nat → XFunc := FT.rec (motive := fun _ => Nat → XFunc) (fun _ => badF) (fun i x f => Bool.rec (motive := fun _ => XFunc) badF x (Nat.beq i f))
  (fun m _ _ l r f => Bool.rec (motive := fun _ => XFunc) (r f) (l f) (Nat.ble (Nat.succ f) m)) t
def FnIs (P : Program) (i : Nat) (x : XFunc) : Prop := ∃ fn, P.funcs[i]? = some fn ∧ trFunc P fn = some x
def FT.OK (P : Program) : FT → Prop
  | .nil => True
  | .leaf i x => FnIs P i x
  | .node _ l r => l.OK P ∧ r.OK P
theorem FT.get_ok {P : Program} : ∀ {t : FT}, t.OK P → ∀ f, FnIs P f (t.get f) ∨ (t.get f).body = .bad
  | .nil, _, f => .inr rfl
  | .leaf i x, h, f => by
    have e : (FT.leaf i x).get f = Bool.rec (motive := fun _ => XFunc) badF x (Nat.beq i f) := rfl
    rw [e]
    cases hb : Nat.beq i f with
    | false => exact .inr rfl
    | true => rw [← Nat.eq_of_beq_eq_true hb]; exact .inl h
  | .node m l r, h, f => by
    have e : (FT.node m l r).get f = Bool.rec (motive := fun _ => XFunc) (r.get f) (l.get f) (Nat.ble (Nat.succ f) m) := rfl
    rw [e]
    cases Nat.ble (Nat.succ f) m with
    | false => exact FT.get_ok h.2 f
    | true => exact FT.get_ok h.1 f
end SX
namespace SX
open Go
set_option linter.unusedVariables false
section
variable {P : Program} {ρ : Val} {m m' m₁ : MM} {h h' h₁ : H} {w w' w₁ w₂ : World} {L : Nat} {v : AV} {b : Frame} {cs : List Frame} {a : Act}
/-- a loop by hand -/
theorem loop_arr {c : Code} {b : Frame} {k : List Item} {cs : List Frame} (I : Nat → Act → World → Prop) (Post : Ex → Act → World → Prop) (N : Nat)
    (hstep : ∀ j a w, j < N → I j a w → ∃ a' w', I (j + 1) a' w' ∧ Arr P (lone (b.atR a (.code c :: .inLoop c :: k)) cs w) b (.inLoop c :: k) cs .normal a' w')
    (hlast : ∀ a w, I N a w → ∃ e a' w', e ≠ .normal ∧ Post e a' w' ∧ Arr P (lone (b.atR a (.code c :: .inLoop c :: k)) cs w) b (.inLoop c :: k) cs e a' w') {a : Act} {w : World} (h0 : I 0 a w) :
    ∃ e a' w', e ≠ .normal ∧ Post e a' w' ∧ Arr P (lone (b.atR a (.code (.loop c) :: k)) cs w) b k cs e a' w' := by
  have key : ∀ n j a w, j + n = N → I j a w → ∃ e a' w', e ≠ .normal ∧ Post e a' w' ∧ Arr P (lone (b.atR a (.code c :: .inLoop c :: k)) cs w) b k cs e a' w' := by
    intro n
    induction n with
    | zero =>
      intro j a w hj hI
      obtain rfl : j = N := by omega
      obtain ⟨e, a', w', hne, hp, harr⟩ := hlast a w hI
      exact ⟨e, a', w', hne, hp, .pass (x := .inLoop c) rfl hne harr⟩
    | succ n ih =>
      intro j a w hj hI
      obtain ⟨a₁, w₁, hI₁, harr₁⟩ := hstep j a w (by omega) hI
      obtain ⟨e, a', w', hne, hp, harr⟩ := ih (j + 1) a₁ w₁ (by omega) hI₁
      exact ⟨e, a', w', hne, hp, .of_steps (Steps.trans harr₁ (.one stepR_inLoop)) harr⟩
  obtain ⟨e, a', w', hne, hp, harr⟩ := key N 0 a w (by omega) h0
  exact ⟨e, a', w', hne, hp, .of_steps (.one stepR_loop) harr⟩
/-- a function whose code is walked by hand -/
theorem leaves_of {f : FuncId} {fn : Func} {body : Code} {args : Array Value} {cs : List Frame} (hf : P.funcs[f]? = some fn) (hb : fn.body = some body) {a₁ : Act} {ex : Ex} (hex : ex = .normal ∨ ex = .ret) {B : Nat} (hd : DefOK B m₁ w₁ a₁.defers) {v : Value}
    (harr : Arr P (lone (({ (default : Frame) with fn := f, kind := .normal } : Frame).atR { tmps := args ++ Array.replicate (fn.ntmps - args.size) undef, defers := [] } [.code body]) cs w)
      { (default : Frame) with fn := f, kind := .normal } [] cs ex a₁ w₁)
    (hres : ∀ w₂ : World, w₂.heap.size = w₁.heap.size → (∀ i, i < B → w₂.heap[i]? = w₁.heap[i]?) → (results fn a₁.tmps).run P w₂ = .ok v w₂) :
    ∃ w₂, Leaves P f args w cs v w₂ ∧ w₂.heap.size = w₁.heap.size ∧ (∀ i, i < B → w₂.heap[i]? = w₁.heap[i]?) ∧ w₂.tape = w₁.tape ∧ w₂.os = w₁.os ∧ w₂.output = w₁.output := by
  obtain ⟨_, rs, hrs, hnd, hrr⟩ := hd
  obtain ⟨w₂, hun, hsz, ho, htp⟩ := unwind_marks (P := P) (cs := []) rs w₁ { (default : Frame) with mode := .returning, defers := rs.map markOf } rfl rfl hnd (fun r hr => (hrr r hr).2.2.1)
  have hlow : ∀ i, i < B → w₂.heap[i]? = w₁.heap[i]? := fun i hi => ho i fun hr => by have := (hrr i hr).1; omega
  refine ⟨w₂, ?_, hsz, hlow, htp⟩
  have he : Frame.enter P f args .normal = _ := enter_eq hf hb
  have hres' := hres w₂ hsz hlow
  rcases hex with rfl | rfl
  · refine ⟨{ ({ (({ (default : Frame) with fn := f, kind := .normal } : Frame).atR a₁ []) with mode := .returning } : Frame) with defers := [] }, ?_, rfl, rfl, rfl, rfl, fn, hf, hres'⟩
    rw [he]; exact Steps.trans (Steps.trans harr (.one (stepR_end rfl))) (hun _ rfl hrs cs)
  · obtain ⟨todo, hs⟩ := harr
    refine ⟨{ ({ (({ (default : Frame) with fn := f, kind := .normal } : Frame).atR a₁ (.code .ret :: todo)) with mode := .returning } : Frame) with defers := [] }, ?_, rfl, rfl, rfl, rfl, fn, hf, hres'⟩
    rw [he]; exact Steps.trans (Steps.trans hs (.one (stepR_ret rfl))) (hun _ rfl hrs cs)
theorem DefOK.sub {B : Nat} {ds : List Deferred} (hd : DefOK B m' w ds) (he : Ext m m') : DefOK B m w ds := by
  obtain ⟨h0, rs, h1, h2, h3⟩ := hd
  exact ⟨h0, rs, h1, h2, fun r hr => by obtain ⟨g0, g1, g2, g3⟩ := h3 r hr; exact ⟨g0, g1, g2, fun p x hx => g3 p x (he p x hx)⟩⟩
/-- the relation at one block -/
def one (p : Ps) (x : Nat × Nat × Nat) : MM := fun q => if q = p then some x else none
theorem one_same (p : Ps) (x : Nat × Nat × Nat) : one p x p = some x := by simp [one]
theorem one_inv {p q : Ps} {x y : Nat × Nat × Nat} (h : one p x q = some y) : q = p ∧ y = x := by
  unfold one at h
  split at h
  · rename_i hq; cases h; exact ⟨hq, rfl⟩
  · cases h
def hOne (B : Blk) : H := ⟨.nd .lf B .lf, .o .h⟩
theorem hOne_get (B : Blk) (p : Ps) : TB.get p (hOne B).t = if p = .h then B else .dead := by
  cases p with
  | h => rfl
  | o p => rw [if_neg (by simp)]; exact TB.get_lf p
  | i p => rw [if_neg (by simp)]; exact TB.get_lf p
theorem Rel.single {B : Blk} {c b z : Nat} (hc : c < w.heap.size) (hB : BlkR P ρ (one .h (c, b, z)) w c b z B) : Rel P ρ (one .h (c, b, z)) (hOne B) w where
  blk p c' b' z' hp := by
    obtain ⟨rfl, he⟩ := one_inv hp
    cases he
    rw [hOne_get, if_pos rfl]; exact ⟨hc, hB⟩
  inj p q c' b' z' b'' z'' hp hq := .inl ((one_inv hp).1.trans (one_inv hq).1.symm)
  fresh p hp := by
    have hne : p ≠ .h := fun e => by rw [e] at hp; simp [hOne, Ps.toNat] at hp
    exact ⟨by simp [one, hne], by rw [hOne_get, if_neg hne]⟩
/-- the relation at none -/
theorem Rel.empty (w : World) : Rel P ρ (fun _ => none) ⟨.lf, .h⟩ w where
  blk p c b z hp := by cases hp
  inj p q c b z b' z' hp := by cases hp
  fresh p _ := ⟨rfl, TB.get_lf p⟩
/-- what leaves all that lay there as it lay -/
theorem Rel.kept (r : Rel P ρ m h w) (hsz : w.heap.size ≤ w'.heap.size) (ho : ∀ c, c < w.heap.size → w'.heap[c]? = w.heap[c]?) (htp : w'.tape = w.tape ∧ w'.os = w.os ∧ w'.output = w.output) : Step P ρ L m h w m h w' where
  ext := Ext.refl m
  rel := {
    blk := fun p c b z hp => by
      obtain ⟨h1, h2⟩ := r.blk p c b z hp
      exact ⟨by omega, h2.mono (Ext.refl m) (ho c h1)⟩
    inj := r.inj
    fresh := r.fresh }
  size := hsz
  framed c hc _ := ho c hc
  tape := htp
  next := Nat.le_refl _
  still p _ hp := ⟨hp, rfl⟩
  news p x hx := .inl hx
  ro p cs hp := hp
/-- what changes one block of all that lay there -/
theorem Rel.turned (r : Rel P ρ m h w) {p : Ps} {c b z : Nat} (hm : m p = some (c, b, z)) (hnd : TB.get p h.t ≠ .dead) (hnro : ∀ cs, TB.get p h.t ≠ .row true cs) {B : Blk}
    (hsz : w.heap.size ≤ w'.heap.size) (hot : ∀ i, i < w.heap.size → i ≠ c → w'.heap[i]? = w.heap[i]?) (htp : w'.tape = w.tape ∧ w'.os = w.os ∧ w'.output = w.output)
    (hB : BlkR P ρ m w' c b z B) : Step P ρ L m h w m (h.put p B) w' where
  ext := Ext.refl m
  rel := {
    blk := fun q c' b' z' hq => by
      obtain ⟨h1, h2⟩ := r.blk q c' b' z' hq
      refine ⟨by omega, ?_⟩
      rw [H.put_get]
      by_cases hqp : q = p
      · subst hqp; rw [if_pos rfl]; rw [hm] at hq; cases hq; exact hB
      · rw [if_neg hqp]
        by_cases hc : c' = c
        · subst hc
          rcases r.inj q p _ _ _ _ _ hq hm with he | hd | hd
          · exact absurd he hqp
          · rw [hd]; trivial
          · exact absurd hd hnd
        · exact h2.mono (Ext.refl m) (hot c' h1 hc)
    inj := fun q q' c' b' s b'' s' hq hq' => by
      rcases r.inj q q' c' b' s b'' s' hq hq' with h | h | h
      · exact .inl h
      · refine .inr (.inl ?_)
        rw [H.put_get, if_neg (fun (e : q = p) => hnd (e ▸ h))]; exact h
      · refine .inr (.inr ?_)
        rw [H.put_get, if_neg (fun (e : q' = p) => hnd (e ▸ h))]; exact h
    fresh := fun q hq => by
      have := r.fresh q hq
      refine ⟨this.1, ?_⟩
      have hne : q ≠ p := fun e => by rw [e] at this; rw [this.1] at hm; cases hm
      rw [H.put_get, if_neg hne]; exact this.2 }
  size := hsz
  framed c' hc' hno := hot c' hc' fun e => hno p _ hm e.symm
  tape := htp
  next := Nat.le_refl _
  still q hq hmq := by
    have hne : q ≠ p := fun e => by rw [e, hm] at hmq; cases hmq
    exact ⟨hmq, by rw [H.put_get, if_neg hne]⟩
  news q x hx := .inl hx
  ro q cs hq := by
    have hne : q ≠ p := fun e => hnro cs (e ▸ hq)
    rw [H.put_get, if_neg hne]; exact hq
/-- which temporaries a function's translation follows -/
def liveOf (fn : Func) (body : Code) : Nat → Bool := fun t => ((liveC body ++ fn.results.toList.map resTmp).eraseDups).contains t
theorem trFunc_live {fn : Func} {xf : XFunc} {body : Code} (hb : fn.body = some body) (ht : trFunc P fn = some xf) : (∀ t, liveOf fn body t = true → t < fn.ntmps) ∧ (∀ x ∈ fn.results.toList, liveOf fn body (resTmp x) = true) ∧
    mapO (trRes P) fn.results.toList = some xf.results ∧ xf.params = (List.range (fn.params.size + fn.nfree)).map Ps.ofNat ∧ xf.body = trCode P (liveOf fn body) fn.ntmps false body := by
  obtain ⟨body', hb', ht⟩ := bind_inv ht
  rw [hb] at hb'; cases hb'
  simp only at ht
  split at ht
  · cases ht
  · rename_i hc
    simp only [Bool.and_eq_true] at hc
    cases hr : mapO (trRes P) fn.results.toList with
    | none => rw [hr] at ht; cases ht
    | some rs =>
      rw [hr] at ht; cases ht
      refine ⟨fun t hl => ?_, fun x hx => ?_, rfl, rfl, rfl⟩
      · exact Nat.le_of_ble_eq_true (List.all_eq_true.1 hc.1 t (by simpa [liveOf] using hl))
      · simp only [liveOf, List.contains_eq_mem, decide_eq_true_iff, List.mem_eraseDups]
        exact List.mem_append_right _ (List.mem_map_of_mem hx)
end
end SX
end
