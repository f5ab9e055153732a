/-
  What each operation does, the rest.
-/
import Derived.Test.YtilplhecmdoifaaGreatDoorSxb
import Derived.Laws.AppendOwn
import Derived.Laws.IdiomCopy
import Derived.Deep.Upon
set_option linter.all false
noncomputable section
namespace SX
open Go
set_option linter.unusedVariables false
/-- the value of an operation that reads -/
def ReadR (P : Program) (ρ : Val) (m : MM) (w : World) (o : Op) (ty : TypeId) (a : Act) (v : AV) : Prop :=
  ∃ v', V ρ m v v' ∧ ∀ (x : Oper), x.op = o → x.type = ty → (execOp a.eval x).run P w = .ok (.value v') w
section
variable {P : Program} {ρ : Val} {m : MM} {live : Nat → Bool} {d : Done} {env : TV} {loc : List AV} {a : Act} {call : Call} {D : Dec} {h h' : H} {v : AV} {ty : TypeId} {X : XOp} {w : World}
theorem rows_ok {p : Ps} {k : Bool → List AV → RV} {u : AV} {hh : H} (e : rows h p k = .ok u hh) : ∃ ro cells, TB.get p h.t = .row ro cells ∧ k ro cells = .ok u hh := by
  unfold rows at e
  cases hb : TB.get p h.t with
  | row ro cells => rw [hb] at e; exact ⟨ro, cells, rfl, e⟩
  | _ => rw [hb] at e; cases e
theorem ents_ok {p : Ps} {k : List (AV × AV) → RV} {u : AV} {hh : H} (e : ents h p k = .ok u hh) : ∃ es, TB.get p h.t = .map es ∧ k es = .ok u hh := by
  unfold ents at e
  cases hb : TB.get p h.t with
  | map es => rw [hb] at e; exact ⟨es, rfl, e⟩
  | _ => rw [hb] at e; cases e
theorem readN_ok {p : Ps} {o n : Nat} {k : List AV → RV} {u : AV} {hh : H} (e : readN h p o n k = .ok u hh) :
    ∃ ro cells, TB.get p h.t = .row ro cells ∧ o + n ≤ cells.length ∧ k ((cells.drop o).take n) = .ok u hh := by
  obtain ⟨ro, cells, h1, e1⟩ := rows_ok e
  obtain ⟨hb, e2⟩ := bV_yes e1
  rw [takeL_eq, dropL_eq] at e2
  exact ⟨ro, cells, h1, (hasL_iff _ _).1 hb, e2⟩
/-- a cell of a row, as it stands in the world -/
theorem row_cell (hr : Rel P ρ m h w) {p : Ps} {c b z : Nat} (hm : m p = some (c, b, z)) {ro : Bool} {cells : List AV} (hrow : TB.get p h.t = .row ro cells) {i : Nat} {x : AV} (hx : cells[i]? = some x) :
    ∃ u, w.cell? ⟨c, b + i, none⟩ = some u ∧ V ρ m x u ∧ u.oneCell' = true := by
  obtain ⟨_, hb⟩ := hr.blk p c b z hm
  rw [hrow] at hb
  obtain ⟨cs, e, fr, h1, _, _, _, _, h5⟩ := hb
  obtain ⟨u, hu, hV, h6⟩ := h5 i x hx
  exact ⟨u, by simp [World.cell?, h1, hu], hV, h6⟩
theorem run_loadCellsFrom (ad : Addr) : ∀ (l : List Value) (i : Nat) (acc : Array Value), (∀ (j : Nat) (u : Value), l[j]? = some u → w.cell? (ad.add (i + j)) = some u) →
    (loadCellsFrom ad i l.length acc).run P w = .ok (acc ++ l.toArray) w := by
  intro l; induction l with
  | nil => intro i acc _; simp [loadCellsFrom]
  | cons v l ih =>
    intro i acc hl
    have h0 := hl 0 v (by simp)
    have hrest := ih (i + 1) (acc.push v) (fun j u hu => by have := hl (j + 1) u (by simpa using hu); rwa [show i + 1 + j = i + (j + 1) by omega])
    simp only [Nat.add_zero] at h0
    simp only [List.length_cons, loadCellsFrom, Sem.run_bind, run_load, h0, Result.andThen_ok, hrest]
    congr 1
    apply Array.ext'; simp
/-- n cells of a row -/
theorem row_cells (hr : Rel P ρ m h w) {p : Ps} {c b z : Nat} (hm : m p = some (c, b, z)) {ro : Bool} {cells : List AV} (hrow : TB.get p h.t = .row ro cells) (o n : Nat) (hn : o + n ≤ cells.length) :
    ∃ l : List Value, l.length = n ∧ Vs ρ m ((cells.drop o).take n) l ∧ OneCells l ∧ ∀ (j : Nat) (u : Value), l[j]? = some u → w.cell? ⟨c, b + o + j, none⟩ = some u := by
  induction n with
  | zero => exact ⟨[], rfl, by simp [Vs], (fun u hu => nomatch hu), fun j u hu => by simp at hu⟩
  | succ n ih =>
    obtain ⟨l, h1, h2, h3, h4⟩ := ih (by omega)
    obtain ⟨u, hu, hV, h5⟩ := row_cell hr hm hrow (i := o + n) (x := cells[o + n]) (by simp)
    refine ⟨l ++ [u], by simp [h1], ?_, ?_, ?_⟩
    · have : (cells.drop o).take (n + 1) = (cells.drop o).take n ++ [cells[o + n]] := by
        rw [List.take_succ_eq_append_getElem (by simp; omega)]; simp
      rw [this]
      exact h2.append ⟨u, [], rfl, hV, rfl⟩
    · intro y hy
      rcases List.mem_append.1 hy with hy | hy
      · exact h3 y hy
      · simp at hy; subst hy; exact h5
    · intro j y hy
      by_cases hj : j < n
      · rw [List.getElem?_append_left (by omega)] at hy; exact h4 j y hy
      · rw [List.getElem?_append_right (by omega), h1] at hy
        have hj' : j = n := by
          rcases Nat.lt_or_ge (j - n) 1 with h | h
          · omega
          · rw [List.getElem?_eq_none (by simpa using h)] at hy; cases hy
        subst hj'
        simp at hy; subst hy
        rw [Nat.add_assoc]; exact hu
theorem run_loadCells (ad : Addr) (c o : Nat) (had : ad = ⟨c, o, none⟩) (l : List Value) (hl : ∀ (j : Nat) (u : Value), l[j]? = some u → w.cell? ⟨c, o + j, none⟩ = some u) : (loadCells ad l.length).run P w = .ok l.toArray w := by
  subst had
  have := run_loadCellsFrom (P := P) (w := w) ⟨c, o, none⟩ l 0 #[] (fun j u hu => by rw [addr_add, Nat.zero_add]; exact hl j u hu)
  simpa [loadCells] using this
theorem load1_read (hr : Rel P ρ m h w) {t : TypeId} (ht : tagg P t = some none) {x : Operand} {ox : Opd} (hx : V ρ m (opd env loc ox) (a.eval x))
    (e : xLoad1 ox call D env loc h = .ok v h') : h' = h ∧ ReadR P ρ m w (.load t x) ty a v := by
  obtain ⟨p, o, h1, e1⟩ := onPtr_ok e
  obtain ⟨ro, cells, h2, e2⟩ := rows_ok e1
  obtain ⟨hb, e3⟩ := bV_yes e2
  have hl : o < cells.length := (hasL_iff _ _).1 hb
  rw [h1] at hx
  obtain ⟨c, b, z, hm, ex⟩ := hx
  obtain ⟨u, hu, hV, _⟩ := row_cell hr hm h2 (i := o) (x := cells[o]) (by simp)
  cases e3
  refine ⟨rfl, u, by rw [getL_eq, List.getElem?_eq_getElem hl]; exact hV, fun y h3 _ => ?_⟩
  simp [execOp, h3, ex, Instr.loadAt, Instr.sureAddr, loadVar, (run_isAgg ht).1, hu]
theorem loadN_read (hr : Rel P ρ m h w) {t : TypeId} {n : Nat} (ht : tagg P t = some (some n)) {x : Operand} {ox : Opd} (hx : V ρ m (opd env loc ox) (a.eval x))
    (e : xLoadN n ox call D env loc h = .ok v h') : h' = h ∧ ReadR P ρ m w (.load t x) ty a v := by
  obtain ⟨p, o, h1, e1⟩ := onPtr_ok e
  obtain ⟨ro, cells, h2, h3, e2⟩ := readN_ok e1
  rw [h1] at hx
  obtain ⟨c, b, z, hm, ex⟩ := hx
  obtain ⟨l, h4, h5, h6, h7⟩ := row_cells hr hm h2 o n h3
  cases e2
  refine ⟨rfl, .agg l.toArray, ⟨l.toArray, rfl, by simpa using h5, fun u hu => h6 u (by simpa using hu)⟩, fun y h8 _ => ?_⟩
  have hrun := run_loadCells (P := P) (w := w) ⟨c, b + o, none⟩ c (b + o) rfl l h7
  rw [h4] at hrun
  simp [execOp, h8, ex, Instr.loadAt, Instr.sureAddr, loadVar, (run_isAgg ht).1, (run_isAgg (w := w) ht).2 n rfl, hrun]
theorem keyEq_ok (hD : DecOK ρ D) {key b : AV} {x y : RV} {u : AV} {hh : H} (e : (keyEq key b fun s => ifV D s x y) = .ok u hh) :
    ∃ r : Bool, (if r then x else y) = .ok u hh ∧ ∀ kv bv, V ρ m key kv → V ρ m b bv → ∃ s t : ByteArray, kv = .string s ∧ bv = .string t ∧ (s == t) = r := by
  obtain ⟨z, e1, hz⟩ := eqv_ok (K := .str) (ρ := ρ) (m := m) e
  have hval : ∀ kv bv, V ρ m key kv → V ρ m b bv → ∃ s t : ByteArray, kv = .string s ∧ bv = .string t ∧ (s == t) = z.den ρ := by
    intro kv bv h1 h2
    have hh := hz kv bv h1 h2
    generalize z.den ρ = r at hh
    cases hh with
    | str s t => exact ⟨s, t, rfl, rfl, by rw [beq_toListBytes, Lib.toList_data, Lib.toList_data, Bool.eq_iff_iff]; simp⟩
  rcases ifV_ok hD e1 with ⟨h1, e2⟩ | ⟨h1, e2⟩
  · exact ⟨true, e2, fun kv bv h2 h3 => by rw [← h1]; exact hval kv bv h2 h3⟩
  · exact ⟨false, e2, fun kv bv h2 h3 => by rw [← h1]; exact hval kv bv h2 h3⟩
theorem findE_ok (hD : DecOK ρ D) {key : AV} {z : RV} {k : AV → RV} {u : AV} {hh : H} : ∀ {es : List (AV × AV)}, findE D key z k es = .ok u hh →
    (z = .ok u hh ∧ ∀ kv xs j, V ρ m key kv → EntR ρ m es xs → Instr.findNow .string kv xs j = some none) ∨
    (∃ x, k x = .ok u hh ∧ ∀ kv xs j, V ρ m key kv → EntR ρ m es xs → ∃ i val, Instr.findNow .string kv xs j = some (some (i, val)) ∧ V ρ m x val) := by
  intro es; induction es with
  | nil => intro e; exact .inl ⟨e, fun kv xs j _ hx => by have : xs = [] := hx; subst this; rfl⟩
  | cons en es ih =>
    intro e
    have e' : (keyEq key en.1 fun s => ifV D s (k en.2) (findE D key z k es)) = .ok u hh := e
    obtain ⟨r, e1, hr⟩ := keyEq_ok (m := m) hD e'
    cases r with
    | true =>
      refine .inr ⟨en.2, e1, fun kv xs j hk hx => ?_⟩
      obtain ⟨x, xs', rfl, h1, h2, h3⟩ := hx
      obtain ⟨s, t, rfl, ht, hst⟩ := hr kv x.key hk h1
      exact ⟨j, x.val, by simp [Instr.findNow, Instr.sameNow, ht, hst], h2⟩
    | false =>
      rcases ih e1 with ⟨h1, h2⟩ | ⟨x, h1, h2⟩
      · refine .inl ⟨h1, fun kv xs j hk hx => ?_⟩
        obtain ⟨x, xs', rfl, h3, h4, h5⟩ := hx
        obtain ⟨s, t, rfl, ht, hst⟩ := hr kv x.key hk h3
        simp only [Instr.findNow, Instr.sameNow, ht, hst]
        exact h2 _ xs' (j + 1) hk h5
      · refine .inr ⟨x, h1, fun kv xs j hk hx => ?_⟩
        obtain ⟨y, xs', rfl, h3, h4, h5⟩ := hx
        obtain ⟨s, t, rfl, ht, hst⟩ := hr kv y.key hk h3
        simp only [Instr.findNow, Instr.sameNow, ht, hst]
        exact h2 _ xs' (j + 1) hk h5
theorem run_checkKey {kt : TypeId} (hk : P.underlying kt = some .string) (b : Bool) (kv : Value) : (Instr.checkKey b 10000 kt kv).run P w = .ok () w := by
  show (Instr.checkKey b (9999 + 1) kt kv).run P w = _
  unfold Instr.checkKey
  simp only [Sem.run_bind, run_und hk, Result.andThen_ok]
  cases kv <;> rfl
theorem map_block (hr : Rel P ρ m h w) {p : Ps} {c b z : Nat} (hm : m p = some (c, b, z)) {es : List (AV × AV)} (hrow : TB.get p h.t = .map es) :
    ∃ xs clock, w.heap[c]? = some (.map xs clock) ∧ EntR ρ m es xs.toList := by
  obtain ⟨_, hb⟩ := hr.blk p c b z hm
  rw [hrow] at hb
  obtain ⟨xs, cl, h1, h2, _⟩ := hb
  exact ⟨xs, cl, h1, h2⟩
theorem map_block' (hr : Rel P ρ m h w) {p : Ps} {c b z : Nat} (hm : m p = some (c, b, z)) {es : List (AV × AV)} (hrow : TB.get p h.t = .map es) :
    ∃ xs clock, w.heap[c]? = some (.map xs clock) ∧ EntR ρ m es xs.toList ∧ MapKept.Stamped xs clock ∧ ∀ x ∈ xs.toList, MapKept.IsKey .string x.key := by
  obtain ⟨_, hb⟩ := hr.blk p c b z hm
  rw [hrow] at hb
  exact hb
theorem run_getObj_map {c : Nat} {xs : Array MapEntry} {clock : Nat} (hh : w.heap[c]? = some (.map xs clock)) : (getObj c).run P w = .ok (.map xs clock) w := by
  simp [getObj, Sem.run, hh]
theorem lookup_core (hD : DecOK ρ D) (hr : Rel P ρ m h w) {t kt e₀ : TypeId} (ht : P.underlying t = some (.map kt e₀)) (hk : P.underlying kt = some .string) {z : AV} (hz : tzeroV P e₀ = some z) {x i : Operand} {ox oi : Opd}
    (hx : V ρ m (opd env loc ox) (a.eval x)) (hi : V ρ m (opd env loc oi) (a.eval i)) {r0 : RV} {k : AV → RV} {u : AV} {hh : H}
    (e : onMap r0 (fun p => ents h p fun es => findE D (opd env loc oi) r0 k es) (opd env loc ox) = .ok u hh) :
    (r0 = .ok u hh ∧ ∃ zv, V ρ m z zv ∧ ∀ ok, (Instr.lookup t (a.eval x) (a.eval i) ok).run P w = .ok (if ok then .tuple #[zv, .bool false] else zv) w) ∨
    (∃ y, k y = .ok u hh ∧ ∃ yv, V ρ m y yv ∧ ∀ ok, (Instr.lookup t (a.eval x) (a.eval i) ok).run P w = .ok (if ok then .tuple #[yv, .bool true] else yv) w) := by
  obtain ⟨zv, hzr, hzV⟩ := tzeroV_ok (ρ := ρ) (m := m) hz
  rcases onMap_ok e with ⟨p, h1, e1⟩ | ⟨h1, e1⟩
  · rw [h1] at hx
    obtain ⟨c, b, s, hm, ex⟩ := hx
    obtain ⟨es, h2, e2⟩ := ents_ok e1
    obtain ⟨xs, clock, h3, h4⟩ := map_block hr hm h2
    rcases findE_ok (m := m) hD e2 with ⟨h5, h6⟩ | ⟨y, h5, h6⟩
    · refine .inl ⟨h5, zv, hzV, fun ok => ?_⟩
      have hf := h6 _ _ 0 hi h4
      simp only [Instr.lookup, ex, Sem.run_bind, run_und ht, Result.andThen_ok, run_getObj_map h3, Sem.run_pure, run_checkKey hk, Instr.findKey, run_und hk, hf, hzr]
    · obtain ⟨j, val, hf, hV⟩ := h6 _ _ 0 hi h4
      refine .inr ⟨y, h5, val, hV, fun ok => ?_⟩
      simp only [Instr.lookup, ex, Sem.run_bind, run_und ht, Result.andThen_ok, run_getObj_map h3, Sem.run_pure, run_checkKey hk, Instr.findKey, run_und hk, hf]
  · rw [h1] at hx
    have ex : a.eval x = .map none := hx
    refine .inl ⟨e1, zv, hzV, fun ok => ?_⟩
    simp only [Instr.lookup, ex, Sem.run_bind, run_und ht, Result.andThen_ok, Sem.run_pure, run_checkKey hk, Instr.findKey, run_und hk, hzr, Instr.findNow]
theorem lookup_read (hD : DecOK ρ D) (hr : Rel P ρ m h w) {t kt e₀ : TypeId} (ht : P.underlying t = some (.map kt e₀)) (hk : P.underlying kt = some .string) {z : AV} (hz : tzeroV P e₀ = some z) {x i : Operand} {ox oi : Opd}
    (hx : V ρ m (opd env loc ox) (a.eval x)) (hi : V ρ m (opd env loc oi) (a.eval i)) (e : xLookup z ox oi call D env loc h = .ok v h') : h' = h ∧ ReadR P ρ m w (.lookup t x i false) ty a v := by
  rcases lookup_core hD hr ht hk hz hx hi e with ⟨h1, zv, h2, h3⟩ | ⟨y, h1, yv, h2, h3⟩ <;> cases h1
  · exact ⟨rfl, zv, h2, fun y h4 _ => by simp [execOp, h4, h3]⟩
  · exact ⟨rfl, yv, h2, fun y h4 _ => by simp [execOp, h4, h3]⟩
theorem lookupOk_read (hD : DecOK ρ D) (hr : Rel P ρ m h w) {t kt e₀ : TypeId} (ht : P.underlying t = some (.map kt e₀)) (hk : P.underlying kt = some .string) {z : AV} (hz : tzeroV P e₀ = some z) {x i : Operand} {ox oi : Opd}
    (hx : V ρ m (opd env loc ox) (a.eval x)) (hi : V ρ m (opd env loc oi) (a.eval i)) (e : xLookupOk z ox oi call D env loc h = .ok v h') : h' = h ∧ ReadR P ρ m w (.lookup t x i true) ty a v := by
  rcases lookup_core hD hr ht hk hz hx hi e with ⟨h1, zv, h2, h3⟩ | ⟨y, h1, yv, h2, h3⟩ <;> cases h1
  · exact ⟨rfl, .tuple #[zv, .bool false], ⟨_, rfl, zv, _, rfl, h2, _, _, rfl, rfl, rfl⟩, fun y h4 _ => by simp [execOp, h4, h3]⟩
  · exact ⟨rfl, .tuple #[yv, .bool true], ⟨_, rfl, yv, _, rfl, h2, _, _, rfl, rfl, rfl⟩, fun y h4 _ => by simp [execOp, h4, h3]⟩
end
end SX
namespace SX
open Go
set_option linter.unusedVariables false
section
variable {P : Program} {ρ : Val} {m : MM} {live : Nat → Bool} {d : Done} {env : TV} {loc : List AV} {a : Act} {call : Call} {D : Dec} {h h' : H} {v : AV} {ty : TypeId} {X : XOp} {w : World}
theorem lenS_read {t : TypeId} (ht : P.underlying t = some .string) {x : Operand} {ox : Opd} (hx : V ρ m (opd env loc ox) (a.eval x))
    (e : xLenS ox call D env loc h = .ok v h') (c : Go.Call) (hc : c.callee = .builtin .len) (ha : c.args = #[x]) (hat : c.argTypes[0]? = some t) : h' = h ∧ ReadR P ρ m w (.call c) ty a v := by
  rcases onStrX_ok e with ⟨l, k, h1, e1⟩ | ⟨p, h1, e1⟩
  · rw [h1] at hx
    obtain ⟨s, ex, hs, _⟩ := hx
    cases e1
    exact ⟨rfl, .int .i64 (l : Int), rfl, fun y h2 _ => by simp [execOp, h2, resolve, hc, ha, invoke, builtin, Builtin.len_, hat, ex, run_und ht, goInt, hs]⟩
  · rw [h1] at hx
    have ex : a.eval x = .string (p.den ρ) := hx
    cases e1
    exact ⟨rfl, .int .i64 ((p.den ρ).size : Int), rfl, fun y h2 _ => by simp [execOp, h2, resolve, hc, ha, invoke, builtin, Builtin.len_, hat, ex, run_und ht, goInt]⟩
theorem lenL_read {t e₀ : TypeId} (ht : P.underlying t = some (.slice e₀)) {x : Operand} {ox : Opd} (hx : V ρ m (opd env loc ox) (a.eval x))
    (e : xLenL ox call D env loc h = .ok v h') (c : Go.Call) (hc : c.callee = .builtin .len) (ha : c.args = #[x]) (hat : c.argTypes[0]? = some t) : h' = h ∧ ReadR P ρ m w (.call c) ty a v := by
  rcases onSlice_ok e with ⟨p, o, es, len, cap, ex', h1, e1⟩ | ⟨h1, e1⟩
  · rw [h1] at hx
    obtain ⟨c', b, z, o', cap', _, ex, _⟩ := hx
    cases e1
    exact ⟨rfl, .int .i64 (len : Int), rfl, fun y h2 _ => by simp [execOp, h2, resolve, hc, ha, invoke, builtin, Builtin.len_, hat, ex, run_und ht, goInt]⟩
  · rw [h1] at hx
    have ex : a.eval x = .slice none 0 0 := hx
    cases e1
    exact ⟨rfl, .int .i64 (0 : Int), rfl, fun y h2 _ => by simp [execOp, h2, resolve, hc, ha, invoke, builtin, Builtin.len_, hat, ex, run_und ht, goInt]⟩
theorem EntR.length : ∀ {es : List (AV × AV)} {xs : List MapEntry}, EntR ρ m es xs → xs.length = es.length := by
  intro es; induction es with
  | nil => intro xs h; have : xs = [] := h; simp [this]
  | cons e es ih => intro xs h; obtain ⟨x, xs', rfl, _, _, h3⟩ := h; simp [ih h3]
theorem lenE_eq (l : List (AV × AV)) : lenE l = l.length := by
  induction l with | nil => rfl | cons a l ih => exact congrArg Nat.succ ih
theorem lenM_read (hr : Rel P ρ m h w) {t kt e₀ : TypeId} (ht : P.underlying t = some (.map kt e₀)) {x : Operand} {ox : Opd} (hx : V ρ m (opd env loc ox) (a.eval x))
    (e : xLenM ox call D env loc h = .ok v h') (c : Go.Call) (hc : c.callee = .builtin .len) (ha : c.args = #[x]) (hat : c.argTypes[0]? = some t) : h' = h ∧ ReadR P ρ m w (.call c) ty a v := by
  rcases onMap_ok e with ⟨p, h1, e1⟩ | ⟨h1, e1⟩
  · rw [h1] at hx
    obtain ⟨c', b, s, hm, ex⟩ := hx
    obtain ⟨es, h2, e2⟩ := ents_ok e1
    obtain ⟨xs, clock, h3, h4⟩ := map_block hr hm h2
    have hl : xs.size = es.length := by have := h4.length; simpa using this
    cases e2
    refine ⟨rfl, .int .i64 (lenE es : Int), rfl, fun y h5 _ => ?_⟩
    simp [execOp, h5, resolve, hc, ha, invoke, builtin, Builtin.len_, hat, ex, run_und ht, goInt, run_getObj_map h3, lenE_eq, hl]
  · rw [h1] at hx
    have ex : a.eval x = .map none := hx
    cases e1
    exact ⟨rfl, .int .i64 (0 : Int), rfl, fun y h2 _ => by simp [execOp, h2, resolve, hc, ha, invoke, builtin, Builtin.len_, hat, ex, run_und ht, goInt]⟩

/-! ### what makes blocks -/
/-- a new block stands for a block of the abstract heap -/
def NewR (P : Program) (ρ : Val) (m : MM) : Blk → Obj → Nat → Prop
  | .row _ cells, o, z => ∃ cs e, o = .cells cs e (0, 0) ∧ cs.size = z ∧ cells.length ≤ z ∧ ∀ (i : Nat) (x : AV), cells[i]? = some x → ∃ u, cs[i]? = some u ∧ V ρ m x u ∧ u.oneCell' = true
  | .map es, o, z => ∃ ents clock, o = .map ents clock ∧ EntR ρ m es ents.toList ∧ MapKept.Stamped ents clock ∧ ∀ x ∈ ents.toList, MapKept.IsKey .string x.key
  | .loop st pend env ps as body, o, z => ∃ L, o = .loop L ∧ LoopR P ρ m st pend env ps as body L
  | _, _, _ => False
/-- what an operation comes to that makes one block -/
def AllocR (P : Program) (ρ : Val) (m : MM) (o : Op) (ty : TypeId) (a : Act) (p : Ps) (v : AV) (B : Blk) : Prop :=
  ∃ obj z, NewR P ρ m B obj z ∧ ∀ (x : Oper) (w : World), x.op = o → x.type = ty → ∃ v', (execOp a.eval x).run P w = .ok (.value v') { w with heap := w.heap.push obj } ∧
    ∀ m', m' p = some (w.heap.size, 0, z) → V ρ m' v v'
theorem NewR.row {cells : List AV} {cs : Array Value} {e : TypeId} {ro : Bool} (hV : Vs ρ m cells cs.toList) (h1 : OneCells cs.toList) : NewR P ρ m (.row ro cells) (.cells cs e (0, 0)) cs.size := by
  refine ⟨cs, e, rfl, rfl, by have := hV.length; simp at this; omega, fun i x hx => ?_⟩
  obtain ⟨u, hu, hu'⟩ := hV.get i x hx
  have hu2 : cs[i]? = some u := by simpa using hu
  exact ⟨u, hu2, hu', h1 u (by rw [Array.mem_toList_iff]; exact Array.mem_of_getElem? hu2)⟩
theorem alloc_alloc {t : TypeId} {z : List AV} (hz : tzero P t = some z) (e : xAlloc z call D env loc h = .ok v h') :
    ∃ B, h' = h.alloc B ∧ v = .ptr h.next 0 ∧ AllocR P ρ m (.alloc t) ty a h.next v B := by
  obtain ⟨zv, hzr, h1, h2⟩ := tzero_ok (ρ := ρ) (m := m) hz
  cases e
  refine ⟨_, rfl, rfl, .cells zv.cells t (0, 0), zv.cells.size, NewR.row h1 h2, fun x w hx _ => ⟨.pointer (some ⟨w.heap.size, 0, none⟩), ?_, fun m' hm' => ⟨_, _, _, hm', rfl⟩⟩⟩
  simp only [execOp, hx, Instr.alloc, Sem.run_bind, hzr, Result.andThen_ok, newVar, Go.newRow, run_newObj, Sem.run_pure]
theorem box_alloc {t : TypeId} {x : Operand} {ox : Opd} (hx : V ρ m (opd env loc ox) (a.eval x)) (e : xBox ox call D env loc h = .ok v h') :
    ∃ B, h' = h.alloc B ∧ v = .ptr h.next 0 ∧ AllocR P ρ m (.box t x) ty a h.next v B := by
  obtain ⟨cs, e1, h1⟩ := onCells_ok e
  obtain ⟨h2, h3⟩ := h1 ρ m _ hx
  cases e1
  refine ⟨_, rfl, rfl, .cells (a.eval x).cells t (0, 0), (a.eval x).cells.size, NewR.row h2 h3, fun y w hy _ => ⟨.pointer (some ⟨w.heap.size, 0, none⟩), ?_, fun m' hm' => ⟨_, _, _, hm', rfl⟩⟩⟩
  simp only [execOp, hy, Instr.box, Sem.run_bind, Result.andThen_ok, newVar, Go.newRow, run_newObj, Sem.run_pure]
theorem mkMap_alloc {t : TypeId} (e : xMkMap call D env loc h = .ok v h') : ∃ B, h' = h.alloc B ∧ v = .map h.next ∧ AllocR P ρ m (.makeMap t none) ty a h.next v B := by
  cases e
  refine ⟨_, rfl, rfl, .map #[] 0, 0, ⟨#[], 0, rfl, rfl, MapKept.stamped_empty 0, fun x hx => by simp at hx⟩, fun y w hy _ => ⟨.map (some w.heap.size), ?_, fun m' hm' => ⟨_, _, _, hm', rfl⟩⟩⟩
  simp only [execOp, hy, Instr.makeMap, Option.map_none, Sem.run_bind, Result.andThen_ok, run_newObj, Sem.run_pure]
/-- zero cells, over and over -/
theorem zeros_list (zs : Array Value) (n : Nat) : ((Array.range (n * zs.size)).map (fun i => zs[i % zs.size]!)).toList = (List.replicate n zs.toList).flatten := by
  induction n with
  | zero => simp
  | succ n ih =>
    rw [Array.toList_map, Array.toList_range] at ih ⊢
    rw [Nat.succ_mul, List.range_add, List.map_append, ih, List.replicate_succ', List.flatten_append]
    congr 1
    simp only [List.flatten_cons, List.flatten_nil, List.append_nil, List.map_map]
    apply List.ext_getElem
    · simp
    · intro i h1 h2
      have hi : i < zs.size := by simpa using h1
      simp [Nat.mod_eq_of_lt hi, hi]
theorem Vs.rep {z : List AV} {l : List Value} (hV : Vs ρ m z l) (h1 : OneCells l) (n : Nat) : Vs ρ m (repL z n) (List.replicate n l).flatten ∧ OneCells (List.replicate n l).flatten := by
  rw [repL_eq]
  induction n with
  | zero => exact ⟨rfl, fun u hu => nomatch hu⟩
  | succ n ih =>
    rw [List.replicate_succ, List.replicate_succ, List.flatten_cons, List.flatten_cons]
    exact ⟨hV.append ih.1, fun u hu => by
      rcases List.mem_append.1 hu with hu | hu
      · exact h1 u hu
      · exact ih.2 u hu⟩
theorem zeros_ok {z : List AV} {zs : Array Value} (hV : Vs ρ m z zs.toList) (h1 : OneCells zs.toList) (n : Nat) :
    Vs ρ m (repL z n) ((Array.range (n * zs.size)).map (fun i => zs[i % zs.size]!)).toList ∧ OneCells ((Array.range (n * zs.size)).map (fun i => zs[i % zs.size]!)).toList := by
  rw [zeros_list]; exact Vs.rep hV h1 n
theorem tsmall_ok {t : TypeId} {n : Nat} (h : tsmall P t = some n) : ∃ i, P.info? t = some i ∧ i.bytes ≤ 65536 ∧ 1 ≤ n ∧ i.size = n ∧ tsize P t = some n := by
  unfold tsmall at h
  cases hi : P.info? t with
  | none => rw [hi] at h; cases h
  | some i =>
    rw [hi] at h
    simp only [Option.bind_some] at h
    split at h
    case isFalse => cases h
    rename_i h1
    split at h
    case isFalse => cases h
    rename_i h2
    have := Option.some.inj h
    subst this
    exact ⟨i, rfl, Nat.le_of_ble_eq_true h1, Nat.le_of_ble_eq_true h2, rfl, by unfold tsize; rw [hi]; rfl⟩
theorem mkSlice_alloc {t e₀ : TypeId} {s : Nat} (ht : P.underlying t = some (.slice e₀)) (hs : tsmall P e₀ = some s) {z : List AV} (hz : tzero P e₀ = some z) (hzl : z.length = s) {x y : Operand} {ox oy : Opd}
    (hx : V ρ m (opd env loc ox) (a.eval x)) (hy : V ρ m (opd env loc oy) (a.eval y)) (e : xMkSlice s z ox oy call D env loc h = .ok v h') :
    ∃ B, h' = h.alloc B ∧ (∃ l c, v = .slice h.next 0 s l c true) ∧ AllocR P ρ m (.makeSlice t x y) ty a h.next v B := by
  obtain ⟨zv, hzr, h1, h2⟩ := tzero_ok (ρ := ρ) (m := m) hz
  obtain ⟨i, hi, hby, h1s, hsz, hts⟩ := tsmall_ok hs
  obtain ⟨k, l, h3, e1⟩ := onIdx_ok e
  obtain ⟨k', c, h4, e2⟩ := onIdx_ok e1
  obtain ⟨hb, e3⟩ := bV_yes e2
  simp only [Bool.and_eq_true] at hb
  have hlc : l ≤ c := Nat.le_of_ble_eq_true hb.1
  have hc : c ≤ 65536 := Nat.le_of_ble_eq_true hb.2
  rw [h3] at hx; rw [h4] at hy
  have ex : a.eval x = .int k (l : Int) := hx
  have ey : a.eval y = .int k' (c : Int) := hy
  have hzs : zv.cells.size = s := by have := h1.length; simp at this; omega
  obtain ⟨hr1, hr2⟩ := zeros_ok h1 h2 c
  cases e3
  have hw1 : IntKind.i64.wrap (l : Int) = l := wrap_low .i64 l (by show l ≤ 9223372036854775807; omega)
  have hw2 : IntKind.i64.wrap (c : Int) = c := wrap_low .i64 c (by show c ≤ 9223372036854775807; omega)
  have hbc : i.bytes * c ≤ 65536 * 65536 := Nat.mul_le_mul hby hc
  refine ⟨_, rfl, ⟨l, c, rfl⟩, _, _, NewR.row (e := e₀) hr1 hr2, fun o w ho _ => ⟨.slice (some ⟨w.heap.size, 0, none⟩) l c, ?_, fun m' hm' => ?_⟩⟩
  · have hcond : ¬ ((decide ((c : Int) < 0) || decide ((i.bytes : Int) * (c : Int) > 2 ^ 48) || decide ((l : Int) < 0) || decide ((l : Int) > (c : Int))) = true) := by
      simp only [Bool.or_eq_true, decide_eq_true_eq, not_or]
      refine ⟨⟨⟨by omega, ?_⟩, by omega⟩, by omega⟩
      have : ((i.bytes : Int) * (c : Int)) = ((i.bytes * c : Nat) : Int) := by simp
      rw [this]; omega
    simp only [execOp, ho, Instr.makeSlice, ex, ey, Sem.run_bind, run_und ht, Result.andThen_ok, asInt, asIntOf, Sem.run_pure, run_info hi, hw1, hw2]
    rw [if_neg hcond]
    by_cases hc0 : c = 0
    · subst hc0
      simp [run_size hts, Go.newRow]
      rw [show Array.range 0 = #[] from rfl]; simp
    · have hn : ¬ (c * s = 0) := Nat.ne_of_gt (Nat.mul_pos (by omega) h1s)
      simp only [Sem.run_bind, run_askRoom, Result.andThen_ok, run_size hts, Int.toNat_natCast, Sem.run_ite, if_neg hn, hzr, Sem.run_pure, Go.newRow, run_newObj, hzs]
  · refine ⟨_, _, _, 0, c, hm', rfl, fun _ => rfl, Nat.le_refl _, .inl ⟨rfl, ?_⟩⟩
    simp [hzs]
end
end SX
namespace SX
open Go
set_option linter.unusedVariables false
section
variable {P : Program} {ρ : Val} {m : MM} {live : Nat → Bool} {d : Done} {env : TV} {loc : List AV} {a : Act} {call : Call} {D : Dec} {h h' : H} {v : AV} {ty : TypeId} {X : XOp} {w : World}
theorem buildSlice_alloc (hop : OpdsR ρ m live d env loc a) {t e₀ : TypeId} {s n : Nat} (ht : P.underlying t = some (.slice e₀)) (hs : tsmall P e₀ = some s) {z : List AV} (hz : tzero P e₀ = some z) (hzl : z.length = s) (hn : ¬ 16777216 < n * s)
    {ps : Array (Nat × Operand)} {l : List (Nat × Nat × Opd)} (hl : parts live d (fun (i : Nat) => some (i * s, s)) ps.toList = some l)
    (e : xBuildSlice s n (repL z n) l call D env loc h = .ok v h') : ∃ B, h' = h.alloc B ∧ v = .slice h.next 0 s n n true ∧ AllocR P ρ m (.buildSlice t n ps) ty a h.next v B := by
  obtain ⟨zv, hzr, h1, h2⟩ := tzero_ok (ρ := ρ) (m := m) hz
  obtain ⟨i, hi, hby, h1s, hsz, hts⟩ := tsmall_ok hs
  have hzs : zv.cells.size = s := by have := h1.length; simp at this; omega
  obtain ⟨hr1, hr2⟩ := zeros_ok h1 h2 n
  obtain ⟨z', hz'l, e1, hf⟩ := putAll_ok hop hl e
  obtain ⟨zv', h3, h4, h5⟩ := hf _ hr1 hr2
  have hlen : zv'.size = n * s := by
    have e1 := h4.length
    have e2 := hr1.length
    simp at e1 e2
    rw [hzs] at e2; omega
  cases e1
  refine ⟨_, rfl, rfl, _, _, NewR.row (e := e₀) h4 h5, fun o w ho _ => ⟨.slice (some ⟨w.heap.size, 0, none⟩) n n, ?_, fun m' hm' => ?_⟩⟩
  · have hps : (ps.map fun (i, x) => (i, a.eval x)).toList = ps.toList.map fun x => (x.1, a.eval x.2) := by simp
    simp only [execOp, ho, Instr.buildSlice, Sem.run_bind, run_und ht, Result.andThen_ok, run_size hts, if_neg (show ¬ n * s > 2 ^ 24 from hn)]
    by_cases hn0 : n * s = 0
    · have hn1 : n = 0 := by rcases Nat.mul_eq_zero.1 hn0 with h | h <;> omega
      subst hn1
      simp only [hn0, if_true, Sem.run_bind, Sem.run_pure, Result.andThen_ok]
      have he : (Array.range 0).map (fun i => (#[] : Array Value)[i % (#[] : Array Value).size]!) = (Array.range (0 * zv.cells.size)).map (fun i => zv.cells[i % zv.cells.size]!) := by
        rw [Nat.zero_mul, show Array.range 0 = #[] from rfl]; simp
      simp only [Nat.zero_mul] at he ⊢
      rw [hps, he]
      simp only [Nat.zero_mul] at h3
      rw [h3]
      simp only [Sem.run_bind, Go.newRow, run_newObj, Result.andThen_ok, Sem.run_pure]
    · simp only [if_neg hn0, Sem.run_bind, hzr, Result.andThen_ok, Sem.run_pure]
      rw [hps]
      rw [hzs] at h3
      simp only [hzs]
      rw [h3]
      simp only [Sem.run_bind, Go.newRow, run_newObj, Result.andThen_ok, Sem.run_pure]
  · refine ⟨_, _, _, 0, n, hm', rfl, fun _ => rfl, Nat.le_refl _, .inl ⟨rfl, ?_⟩⟩
    omega

/-! ### blocks that come to stand for one another -/
def upd (m : MM) (p : Ps) (x : Nat × Nat × Nat) : MM := fun q => if q = p then some x else m q
theorem upd_same (m : MM) (p : Ps) (x : Nat × Nat × Nat) : upd m p x p = some x := by simp [upd]
theorem upd_other {m : MM} {p q : Ps} {x : Nat × Nat × Nat} (h : q ≠ p) : upd m p x q = m q := by simp [upd, h]
theorem Ext.upd {p : Ps} {x : Nat × Nat × Nat} (h : m p = none) : Ext m (upd m p x) := by
  intro q y hq
  have : q ≠ p := fun e => by rw [e, h] at hq; cases hq
  rw [upd_other this]; exact hq
theorem EntR.mono {m' : MM} (he : Ext m m') : ∀ {es : List (AV × AV)} {xs : List MapEntry}, EntR ρ m es xs → EntR ρ m' es xs := by
  intro es; induction es with
  | nil => intro xs h; exact h
  | cons e es ih => intro xs h; obtain ⟨x, xs', h0, h1, h2, h3⟩ := h; exact ⟨x, xs', h0, V.mono he _ _ h1, V.mono he _ _ h2, ih h3⟩
theorem EnvR.mono {m' : MM} (he : Ext m m') {live : Nat → Bool} {env : TV} {tm : Array Value} (h : EnvR ρ m live env tm) : EnvR ρ m' live env tm := fun t ht => V.mono he _ _ (h t ht)
theorem LoopR.mono {m' : MM} (he : Ext m m') {st : Nat} {pend : Ex} {en : TV} {ps : List Ps} {as body : XCode} {L : Loop} (h : LoopR P ρ m st pend en ps as body L) : LoopR P ρ m' st pend en ps as body L := by
  obtain ⟨h2, h3, h4, lv, nt, h5, h6, h7, h8⟩ := h; exact ⟨h2, h3, h4, lv, nt, h5, h6, h7.mono he, h8⟩
theorem BlkR.mono {m' : MM} (he : Ext m m') {w w' : World} {c b z : Nat} {B : Blk} (hw : w'.heap[c]? = w.heap[c]?) (h : BlkR P ρ m w c b z B) : BlkR P ρ m' w' c b z B := by
  cases B with
  | dead => trivial
  | row ro cells =>
    obtain ⟨cs, e, fr, h1, h2, h3, h4, h0, h5⟩ := h
    exact ⟨cs, e, fr, hw.trans h1, h2, h3, h4, h0, fun i x hx => by obtain ⟨u, hu, hV, h6⟩ := h5 i x hx; exact ⟨u, hu, V.mono he _ _ hV, h6⟩⟩
  | map es => obtain ⟨xs, cl, h1, h2, h3⟩ := h; exact ⟨xs, cl, hw.trans h1, h2.mono he, h3⟩
  | loop st pend en ps as body => obtain ⟨L, h1, h2⟩ := h; exact ⟨L, hw.trans h1, h2.mono he⟩
theorem NewR.blk {B : Blk} {o : Obj} {z : Nat} (h : NewR P ρ m B o z) {m' : MM} (he : Ext m m') {w : World} {c : Nat} (hc : w.heap[c]? = some o) : BlkR P ρ m' w c 0 z B := by
  cases B with
  | row ro cells =>
    obtain ⟨cs, e, rfl, h2, h3, h4⟩ := h
    exact ⟨cs, e, (0, 0), hc, h2, fun i hi hh => by omega, by omega, fun _ => rfl, fun i x hx => by obtain ⟨u, hu, hV, h6⟩ := h4 i x hx; exact ⟨u, by rw [Nat.zero_add]; exact hu, V.mono he _ _ hV, h6⟩⟩
  | map es => obtain ⟨xs, cl, rfl, h2, h3⟩ := h; exact ⟨xs, cl, hc, h2.mono he, h3⟩
  | dead => exact h.elim
  | loop st pend en ps as body => obtain ⟨L, rfl, h2⟩ := h; exact ⟨L, hc, h2.mono he⟩
theorem H.alloc_get {B : Blk} (p : Ps) : TB.get p (h.alloc B).t = if p = h.next then B else TB.get p h.t := by
  unfold H.alloc
  by_cases hp : p = h.next
  · rw [if_pos hp, hp]; exact TB.get_set_same _ _ _
  · rw [if_neg hp]; exact TB.get_set_other _ _ _ _ hp
theorem H.alloc_next {B : Blk} : (h.alloc B).next.toNat = h.next.toNat + 1 := Ps.toNat_succ _
/-- a block of the abstract heap alone, so far -/
theorem Rel.ahead (r : Rel P ρ m h w) (B : Blk) : Rel P ρ m (h.alloc B) w where
  blk p c b z hp := by
    have hne : p ≠ h.next := fun e => by have := (r.fresh p (by rw [e]; exact Nat.le_refl _)).1; rw [this] at hp; cases hp
    rw [H.alloc_get, if_neg hne]; exact r.blk p c b z hp
  inj p q c b z b' z' hp hq := by
    have hne : p ≠ h.next := fun e => by have := (r.fresh p (by rw [e]; exact Nat.le_refl _)).1; rw [this] at hp; cases hp
    have hne' : q ≠ h.next := fun e => by have := (r.fresh q (by rw [e]; exact Nat.le_refl _)).1; rw [this] at hq; cases hq
    rw [H.alloc_get, if_neg hne, H.alloc_get, if_neg hne']; exact r.inj p q c b z b' z' hp hq
  fresh p hp := by
    rw [H.alloc_next] at hp
    have hne : p ≠ h.next := fun e => by rw [e] at hp; omega
    rw [H.alloc_get, if_neg hne]; exact r.fresh p (by omega)
theorem push_get {o : Obj} {c : Nat} (hc : c < w.heap.size) : (w.heap.push o)[c]? = w.heap[c]? := by
  rw [Array.getElem?_push]; rw [if_neg (by omega)]
/-- and now there is one in the world that it stands for -/
theorem Rel.born (r : Rel P ρ m h w) {p : Ps} {o : Obj} {z L : Nat} (hp : m p = none) (hL : L ≤ p.toNat) (hlt : p.toNat < h.next.toNat) (hn : NewR P ρ m (TB.get p h.t) o z) :
    Step P ρ L m h w (upd m p (w.heap.size, 0, z)) h { w with heap := w.heap.push o } where
  ext := Ext.upd hp
  rel := {
    blk := fun q c b s hq => by
      by_cases hqp : q = p
      · subst hqp
        rw [upd_same] at hq; cases hq
        exact ⟨by simp, hn.blk (Ext.upd hp) (by simp)⟩
      · rw [upd_other hqp] at hq
        obtain ⟨h1, h2⟩ := r.blk q c b s hq
        exact ⟨by simp; omega, h2.mono (Ext.upd hp) (push_get h1)⟩
    inj := fun q q' c b s b' s' hq hq' => by
      by_cases hqp : q = p
      · by_cases hqp' : q' = p
        · exact .inl (hqp.trans hqp'.symm)
        · subst hqp
          rw [upd_same] at hq; cases hq
          rw [upd_other hqp'] at hq'
          have := (r.blk q' _ _ _ hq').1
          omega
      · by_cases hqp' : q' = p
        · subst hqp'
          rw [upd_same] at hq'; cases hq'
          rw [upd_other hqp] at hq
          have := (r.blk q _ _ _ hq).1
          omega
        · rw [upd_other hqp] at hq; rw [upd_other hqp'] at hq'
          exact r.inj q q' c b s b' s' hq hq'
    fresh := fun q hq => by
      have hqp : q ≠ p := fun e => by rw [e] at hq; omega
      rw [upd_other hqp]; exact r.fresh q hq }
  size := by simp
  framed c hc _ := push_get hc
  tape := ⟨rfl, rfl, rfl⟩
  next := Nat.le_refl _
  still q hq hm := by
    have hqp : q ≠ p := fun e => by rw [e] at hq; omega
    exact ⟨by rw [upd_other hqp]; exact hm, rfl⟩
  news q x hx := by
    by_cases hqp : q = p
    · subst hqp; rw [upd_same] at hx; cases hx; exact .inr (.inl (Nat.le_refl _))
    · rw [upd_other hqp] at hx; exact .inl hx
  ro _ _ hp := hp
end
end SX
namespace SX
open Go
set_option linter.unusedVariables false
section
variable {P : Program} {ρ : Val} {m : MM} {live : Nat → Bool} {d : Done} {env : TV} {loc : List AV} {a : Act} {call : Call} {D : Dec} {h h' : H} {v : AV} {ty : TypeId} {X : XOp} {w : World}
theorem size_setCell (x : Addr) (v : Value) : (w.setCell x v).heap.size = w.heap.size := by simp [World.setCell]
theorem size_setCells (b : Nat) : ∀ (vs : List Value) (o : Nat) (w : World), (w.setCells b o vs).heap.size = w.heap.size
  | [], _, _ => rfl
  | v :: vs, o, w => by simp only [World.setCells]; rw [size_setCells b vs, size_setCell]
theorem tape_setCells (b : Nat) : ∀ (vs : List Value) (o : Nat) (w : World), (w.setCells b o vs).tape = w.tape ∧ (w.setCells b o vs).os = w.os ∧ (w.setCells b o vs).output = w.output
  | [], _, _ => ⟨rfl, rfl, rfl⟩
  | v :: vs, o, w => by simp only [World.setCells]; exact tape_setCells b vs _ _
theorem setCell_obj {c o : Nat} {v : Value} {cs : Array Value} {e : TypeId} {fr : Nat × Nat} (hc : w.heap[c]? = some (.cells cs e fr)) :
    (w.setCell ⟨c, o, none⟩ v).heap[c]? = some (.cells (cs.setIfInBounds o v) e fr) := by
  simp [World.setCell, Array.getElem?_modify, hc]
theorem setCells_obj {c : Nat} {e : TypeId} {fr : Nat × Nat} : ∀ (vs : List Value) (o : Nat) (w : World) (cs : Array Value), w.heap[c]? = some (.cells cs e fr) → o + vs.length ≤ cs.size →
    ∃ cs', (w.setCells c o vs).heap[c]? = some (.cells cs' e fr) ∧ cs'.size = cs.size ∧ (∀ k, k < o ∨ o + vs.length ≤ k → cs'[k]? = cs[k]?) ∧ (∀ j v, vs[j]? = some v → cs'[o + j]? = some v)
  | [], o, w, cs, hc, _ => ⟨cs, hc, rfl, fun _ _ => rfl, fun j v hj => by simp at hj⟩
  | v :: vs, o, w, cs, hc, hl => by
    simp only [List.length_cons] at hl
    obtain ⟨cs', h1, h2, h3, h4⟩ := setCells_obj vs (o + 1) (w.setCell ⟨c, o, none⟩ v) _ (setCell_obj hc) (by simp; omega)
    refine ⟨cs', h1, by simpa using h2, fun k hk => ?_, fun j u hj => ?_⟩
    · simp only [List.length_cons] at hk
      rw [h3 k (by omega), Array.getElem?_setIfInBounds_ne (by omega)]
    · cases j with
      | zero =>
        simp at hj; subst hj
        rw [Nat.add_zero, h3 o (by omega), Array.getElem?_setIfInBounds_self_of_lt (by omega)]
      | succ j =>
        have := h4 j u (by simpa using hj)
        rwa [show o + 1 + j = o + (j + 1) by omega] at this
theorem H.put_get {B : Blk} (p q : Ps) : TB.get q (h.put p B).t = if q = p then B else TB.get q h.t := by
  unfold H.put
  by_cases hq : q = p
  · rw [if_pos hq, hq]; exact TB.get_set_same _ _ _
  · rw [if_neg hq]; exact TB.get_set_other _ _ _ _ hq
/-- a block is put in place of itself, and its object with it -/
theorem Rel.changed (r : Rel P ρ m h w) {p : Ps} {c b z L : Nat} (hm : m p = some (c, b, z)) (hnd : TB.get p h.t ≠ .dead) (hnro : ∀ cs, TB.get p h.t ≠ .row true cs) {B : Blk} {w' : World}
    (hsz : w'.heap.size = w.heap.size) (hot : ∀ i, i < w.heap.size → i ≠ c → w'.heap[i]? = w.heap[i]?) (htp : w'.tape = w.tape ∧ w'.os = w.os ∧ w'.output = w.output)
    (hB : BlkR P ρ m w' c b z B) : Step P ρ L m h w m (h.put p B) w' where
  ext := Ext.refl m
  rel := {
    blk := fun q c' b' z' hq => by
      obtain ⟨h1, h2⟩ := r.blk q c' b' z' hq
      refine ⟨hsz ▸ h1, ?_⟩
      rw [H.put_get]
      by_cases hqp : q = p
      · subst hqp; rw [if_pos rfl]; rw [hm] at hq; cases hq; exact hB
      · rw [if_neg hqp]
        by_cases hc : c' = c
        · subst hc
          rcases r.inj q p _ _ _ _ _ hq hm with he | hd | hd
          · exact absurd he hqp
          · rw [hd]; trivial
          · exact absurd hd hnd
        · exact h2.mono (Ext.refl m) (hot c' h1 hc)
    inj := fun q q' c' b' s b'' s' hq hq' => by
      rcases r.inj q q' c' b' s b'' s' hq hq' with he | hd | hd
      · exact .inl he
      · by_cases hqp : q = p
        · subst hqp; exact absurd hd hnd
        · rw [H.put_get, if_neg hqp]; exact .inr (.inl hd)
      · by_cases hqp : q' = p
        · subst hqp; exact absurd hd hnd
        · rw [H.put_get (q := q'), if_neg hqp]; exact .inr (.inr hd)
    fresh := fun q hq => by
      obtain ⟨h1, h2⟩ := r.fresh q hq
      have hqp : q ≠ p := fun e => by rw [e, hm] at h1; cases h1
      exact ⟨h1, by rw [H.put_get, if_neg hqp]; exact h2⟩ }
  size := Nat.le_of_eq hsz.symm
  framed i hi hn := hot i hi fun e => hn p _ hm (by rw [e])
  tape := htp
  next := Nat.le_refl _
  still q _ hq := by
    have hqp : q ≠ p := fun e => by rw [e, hm] at hq; cases hq
    exact ⟨hq, by rw [H.put_get, if_neg hqp]⟩
  news q x hx := .inl hx
  ro q cs hq := by
    have hqp : q ≠ p := fun e => by rw [e] at hq; exact absurd hq (hnro cs)
    rw [H.put_get, if_neg hqp]; exact hq
theorem writeN_ok {p : Ps} {o : Nat} {vs : List AV} {k : H → RV} {u : AV} {hh : H} (e : writeN h p o vs k = .ok u hh) :
    ∃ cells, TB.get p h.t = .row false cells ∧ o + vs.length ≤ cells.length ∧ k (h.put p (.row false (cells.take o ++ vs ++ cells.drop (o + vs.length)))) = .ok u hh := by
  obtain ⟨ro, cells, h1, e1⟩ := rows_ok e
  cases ro with
  | true => cases e1
  | false =>
    obtain ⟨hb, e2⟩ := bV_yes e1
    have hl : o + vs.length ≤ cells.length := by rw [← lenL_eq]; exact (hasL_iff _ _).1 hb
    rw [putL_eq _ _ _ hl] at e2
    exact ⟨cells, h1, hl, e2⟩
/-- cells of a row are written -/
theorem write_step (r : Rel P ρ m h w) {p : Ps} {c b z L : Nat} (hm : m p = some (c, b, z)) {cells : List AV} (hrow : TB.get p h.t = .row false cells) {o : Nat} {vs : List AV} {l : List Value} (hV : Vs ρ m vs l) (h1 : OneCells l)
    (hl : o + vs.length ≤ cells.length) : Step P ρ L m h w m (h.put p (.row false (cells.take o ++ vs ++ cells.drop (o + vs.length)))) (w.setCells c (b + o) l) ∧
      ∀ {T : TypeId}, (storeCells ⟨c, b + o, none⟩ l).run P w = .ok () (w.setCells c (b + o) l) := by
  obtain ⟨hc, hb⟩ := r.blk p c b z hm
  rw [hrow] at hb
  obtain ⟨cs, e, fr, h2, h3, h4, h5, _, h6⟩ := hb
  have hlen := hV.length
  obtain ⟨cs', g1, g2, g3, g4⟩ := setCells_obj l (b + o) w cs h2 (by omega)
  constructor
  · refine r.changed hm (by rw [hrow]; simp) (by rw [hrow]; simp) (size_setCells c l _ w) (fun i hi hne => World.heap_setCells_other w c (b + o) l hi hne) (tape_setCells c l _ w) ?_
    refine ⟨cs', e, fr, g1, by omega, h4, by simp; omega, fun h => (by cases h), fun i x hx => ?_⟩
    by_cases hi : i < o
    · rw [List.append_assoc, List.getElem?_append_left (by simp; omega), List.getElem?_take_of_lt hi] at hx
      rw [g3 (b + i) (by omega)]
      exact h6 i x hx
    · by_cases hi2 : i < o + vs.length
      · rw [List.getElem?_append_left (by simp; omega), List.getElem?_append_right (by simp; omega)] at hx
        have ho : min o cells.length = o := by omega
        simp only [List.length_take, ho] at hx
        obtain ⟨u, hu, hV'⟩ := hV.get _ _ hx
        have := g4 _ _ hu
        rw [show b + o + (i - o) = b + i by omega] at this
        exact ⟨u, this, hV', h1 u (List.mem_of_getElem? hu)⟩
      · rw [List.getElem?_append_right (by simp; omega)] at hx
        have ho : min o cells.length = o := by omega
        simp only [List.length_append, List.length_take, ho, List.getElem?_drop] at hx
        rw [show o + vs.length + (i - (o + vs.length)) = i by omega] at hx
        rw [g3 (b + i) (by omega)]
        exact h6 i x hx
  · intro _
    have hcell : ∀ k, k < z → (w.cell? ⟨c, k, none⟩).isSome = true := fun k hk => by simp [World.cell?, h2]; omega
    have hfr : ∀ k, k < z → w.frozen? ⟨c, k, none⟩ = false := fun k hk => by
      have := h4 k hk
      obtain ⟨f1, f2⟩ := fr
      simp [World.frozen?, h2]
      simp at this
      omega
    have := run_storeCells_cells (P := P) c (b + o) l 0 w (fun j hj => hcell _ (by omega)) (fun j hj => hfr _ (by omega)) h1
    simpa using this
end
end SX
namespace SX
open Go
set_option linter.unusedVariables false
/-- what an operation comes to that changes the world -/
def WorldR (P : Program) (ρ : Val) (L : Nat) (m : MM) (h : H) (w : World) (o : Op) (ty : TypeId) (a : Act) (v : AV) (h' : H) : Prop :=
  ∃ m' w' v' nx, Step P ρ L m h w m' h' w' ∧ V ρ m' v v' ∧ (nx = .value v' ∨ (nx = .skip ∧ v' = undef)) ∧ ∀ x : Oper, x.op = o → x.type = ty → (execOp a.eval x).run P w = .ok nx w'
section
variable {P : Program} {ρ : Val} {m : MM} {live : Nat → Bool} {d : Done} {env : TV} {loc : List AV} {a : Act} {call : Call} {D : Dec} {h h' : H} {v : AV} {ty : TypeId} {X : XOp} {w : World} {L : Nat}
theorem store_world (hr : Rel P ρ m h w) {t : TypeId} {n : Nat} (ht : tsize P t = some n) {x y : Operand} {ox oy : Opd} (hx : V ρ m (opd env loc ox) (a.eval x)) (hy : V ρ m (opd env loc oy) (a.eval y))
    (e : xStore n ox oy call D env loc h = .ok v h') : WorldR P ρ L m h w (.store t x y) ty a v h' := by
  obtain ⟨p, o, h1, e1⟩ := onPtr_ok e
  obtain ⟨cs, e2, h2⟩ := onCells_ok e1
  obtain ⟨hV, h3⟩ := h2 ρ m _ hy
  obtain ⟨hb, e3⟩ := bV_yes e2
  have hn : cs.length = n := by rw [← lenL_eq]; exact Nat.eq_of_beq_eq_true hb
  obtain ⟨cells, h4, h5, e4⟩ := writeN_ok e3
  rw [h1] at hx
  obtain ⟨c, b, z, hm, ex⟩ := hx
  obtain ⟨s, hrun⟩ := write_step (L := L) hr hm h4 hV h3 h5
  cases e4
  refine ⟨m, _, undef, .skip, s, ⟨#[], rfl, rfl⟩, .inr ⟨rfl, rfl⟩, fun q hq _ => ?_⟩
  have hsz : (a.eval y).cells.size = n := by have := hV.length; simp at this; omega
  simp only [execOp, hq, ex, Instr.storeAt, Instr.sureAddr, storeVar, Sem.run_bind, Sem.run_pure, Result.andThen_ok, run_size ht, hsz, ne_eq, not_true_eq_false, if_false, hrun (T := t)]
theorem EntR.push {es : List (AV × AV)} {xs : List MapEntry} (he : EntR ρ m es xs) {k v : AV} {x : MapEntry} (hk : V ρ m k x.key) (hv : V ρ m v x.val) : EntR ρ m (es ++ [(k, v)]) (xs ++ [x]) := by
  induction es generalizing xs with
  | nil => have : xs = [] := he; subst this; exact ⟨x, [], rfl, hk, hv, rfl⟩
  | cons e es ih => obtain ⟨y, ys, rfl, h1, h2, h3⟩ := he; exact ⟨y, ys ++ [x], rfl, h1, h2, ih h3⟩
theorem foldl_cons {α : Type} (l acc : List α) : acc.foldl (fun l x => x :: l) l = acc.reverse ++ l := by
  induction acc generalizing l with | nil => rfl | cons a acc ih => simp [ih]
theorem updE_ok (hD : DecOK ρ D) {key v : AV} {k : List (AV × AV) → RV} {u : AV} {hh : H} : ∀ {es acc : List (AV × AV)}, updE D key v k es acc = .ok u hh →
    ∃ es', k es' = .ok u hh ∧ ∀ kv vv xs ys j, V ρ m key kv → V ρ m v vv → EntR ρ m es xs → EntR ρ m acc.reverse ys → ∀ i val, Instr.findNow .string kv xs j = some (some (i, val)) →
      ∃ i', i = j + i' ∧ EntR ρ m es' (ys ++ xs.modify i' fun e => { e with key := kv, val := vv }) ∧ (∃ x, xs[i']? = some x ∧ x.key = kv) ∧ ∃ sv, kv = .string sv := by
  intro es; induction es with
  | nil =>
    intro acc e
    refine ⟨_, e, fun kv vv xs ys j _ _ hx _ i val hf => ?_⟩
    have : xs = [] := hx; subst this
    cases hf
  | cons en es ih =>
    intro acc e
    have e' : (keyEq key en.1 fun s => ifV D s (k (acc.foldl (fun l x => x :: l) ((key, v) :: es))) (updE D key v k es (en :: acc))) = .ok u hh := e
    obtain ⟨r, e1, hr⟩ := keyEq_ok (m := m) hD e'
    cases r with
    | true =>
      refine ⟨_, e1, fun kv vv xs ys j hk hv hx hy i val hf => ?_⟩
      obtain ⟨x, xs', rfl, h1, h2, h3⟩ := hx
      obtain ⟨s, t, rfl, ht, hst⟩ := hr kv x.key hk h1
      simp [Instr.findNow, Instr.sameNow, ht, hst] at hf
      have hst' : s = t := by
        rw [beq_toListBytes, Lib.toList_data, Lib.toList_data] at hst
        exact ByteArray.ext (Array.ext' (by simpa using hst))
      refine ⟨0, by omega, ?_, ⟨x, rfl, by rw [ht, hst']⟩, s, rfl⟩
      rw [foldl_cons]
      have : EntR ρ m ((key, v) :: es) ((x :: xs').modify 0 fun e => { e with key := .string s, val := vv }) := ⟨{ x with key := .string s, val := vv }, xs', by simp, hk, hv, h3⟩
      revert hy this
      generalize acc.reverse = ac
      generalize (x :: xs').modify 0 _ = zs
      intro hy this
      clear e e' e1
      induction ac generalizing ys with
      | nil => have : ys = [] := hy; subst this; simpa
      | cons c ac ih2 => obtain ⟨y, ys', rfl, g1, g2, g3⟩ := hy; exact ⟨y, ys' ++ zs, rfl, g1, g2, ih2 _ g3⟩
    | false =>
      obtain ⟨es', h1, h2⟩ := ih e1
      refine ⟨es', h1, fun kv vv xs ys j hk hv hx hy i val hf => ?_⟩
      obtain ⟨x, xs', rfl, h3, h4, h5⟩ := hx
      obtain ⟨s, t, rfl, ht, hst⟩ := hr kv x.key hk h3
      simp only [Instr.findNow, Instr.sameNow, ht, hst] at hf
      have hy' : EntR ρ m (en :: acc).reverse (ys ++ [x]) := by rw [List.reverse_cons]; exact hy.push h3 h4
      obtain ⟨i', g1, g2, ⟨y, g3, g4⟩, g5⟩ := h2 _ vv xs' (ys ++ [x]) (j + 1) hk hv h5 hy' i val hf
      exact ⟨i' + 1, by omega, by simpa using g2, ⟨y, by simpa using g3, g4⟩, g5⟩
theorem mapUpd_world (hD : DecOK ρ D) (hr : Rel P ρ m h w) {t kt e₀ : TypeId} (ht : P.underlying t = some (.map kt e₀)) (hk : P.underlying kt = some .string) {x y z : Operand} {ox oy oz : Opd}
    (hx : V ρ m (opd env loc ox) (a.eval x)) (hy : V ρ m (opd env loc oy) (a.eval y)) (hz : V ρ m (opd env loc oz) (a.eval z))
    (e : xMapUpd ox oy oz call D env loc h = .ok v h') : WorldR P ρ L m h w (.mapUpdate t x y z) ty a v h' := by
  rcases onMap_ok e with ⟨p, h1, e1⟩ | ⟨h1, e1⟩
  · rw [h1] at hx
    obtain ⟨c, b, s, hm, ex⟩ := hx
    obtain ⟨es, h2, e2⟩ := ents_ok e1
    obtain ⟨xs, clock, h3, h4, hst, hks⟩ := map_block' hr hm h2
    have hc : c < w.heap.size := (hr.blk p c b s hm).1
    have hso : ∀ o : Obj, (setObj c o).run P w = .ok () { w with heap := w.heap.setIfInBounds c o } := fun o => by
      simp [setObj, Sem.run, h3]
    have hchg : ∀ (es' : List (AV × AV)) (xs' : Array MapEntry) (cl : Nat), EntR ρ m es' xs'.toList → (MapKept.Stamped xs' cl ∧ ∀ x ∈ xs'.toList, MapKept.IsKey .string x.key) → Step P ρ L m h w m (h.put p (.map es')) { w with heap := w.heap.setIfInBounds c (.map xs' cl) } := fun es' xs' cl he hs =>
      hr.changed hm (by rw [h2]; simp) (by rw [h2]; simp) (by simp) (fun i hi hne => by simp [Array.getElem?_setIfInBounds_ne (Ne.symm hne)]) ⟨rfl, rfl, rfl⟩ ⟨xs', cl, by simp [hc], he, hs⟩
    rcases findE_ok (m := m) hD e2 with ⟨h5, h6⟩ | ⟨u, h5, h6⟩
    · have hf := h6 _ _ 0 hy h4
      have hkey : MapKept.IsKey .string (a.eval y) := by
        rcases onStrX_ok h5 with ⟨l, c, hk, _⟩ | ⟨e, hk, _⟩
        · rw [hk] at hy; obtain ⟨s, hs, _⟩ := hy; rw [hs]; trivial
        · rw [hk] at hy; rw [show a.eval y = _ from hy]; trivial
      have h5' : h' = h.put p (.map (es ++ [(opd env loc oy, opd env loc oz)])) ∧ v = .tup [] := by
        rcases onStrX_ok h5 with ⟨l, c, _, h5⟩ | ⟨e, _, h5⟩ <;> (cases h5; exact ⟨rfl, rfl⟩)
      obtain ⟨rfl, rfl⟩ := h5'
      refine ⟨m, _, undef, .skip, hchg _ (xs.push { key := a.eval y, val := a.eval z, born := clock }) (clock + 1) (by rw [Array.toList_push]; exact h4.push hy hz) (by
        rcases MapKept.findNow_spec hkey xs.toList 0 hks with ⟨_, g2⟩ | ⟨j, e', g1, _, _⟩
        · refine ⟨MapKept.stamped_push hst g2, fun x hx => ?_⟩
          rw [Array.toList_push, List.mem_append, List.mem_singleton] at hx
          rcases hx with hx | rfl
          · exact hks x hx
          · exact hkey
        · rw [hf] at g1; cases g1), ⟨#[], rfl, rfl⟩, .inr ⟨rfl, rfl⟩, fun q hq _ => ?_⟩
      simp only [execOp, hq, Instr.mapUpdate, ex, Sem.run_bind, run_und ht, Result.andThen_ok, run_getObj_map h3, Sem.run_pure, run_checkKey hk, Instr.findKey, run_und hk, hf, hso]
    · obtain ⟨j, val, hf, hV⟩ := h6 _ _ 0 hy h4
      obtain ⟨es', h7, h8⟩ := updE_ok (m := m) hD h5
      obtain ⟨i', g1, g2, ⟨x', g3, g4⟩, sv, hsv⟩ := h8 _ _ _ [] 0 hy hz h4 rfl j val hf
      have hj : j = i' := by omega
      subst hj
      cases h7
      have hkey : ((xs[j]?).map (·.key)).getD (a.eval y) = a.eval y := by
        have : xs[j]? = some x' := by simpa using g3
        rw [this]; simpa using g4
      refine ⟨m, _, undef, .skip, hchg _ (xs.modify j fun e => { e with key := a.eval y, val := a.eval z }) clock (by simpa using g2) (by
        have hj : ∀ e, xs[j]? = some e → e = x' := fun e he => by rw [show xs[j]? = some x' by simpa using g3] at he; cases he; rfl
        have hke : ∀ e' : MapEntry, xs[j]? = some e' → ({ e' with key := a.eval y, val := a.eval z } : MapEntry).key = e'.key := fun e' he' => by rw [hj e' he']; exact g4.symm
        exact ⟨MapKept.stamped_modify hst _ _ (fun _ _ => rfl) (fun e' _ he' => hke e' he'), MapKept.isKey_modify hks _ _ hke⟩), ⟨#[], rfl, rfl⟩, .inr ⟨rfl, rfl⟩, fun q hq _ => ?_⟩
      have hks : (Instr.keyThatStays (a.eval y) (a.eval y)).run P w = .ok (a.eval y) w := by
        have hb : (sv == sv) = true := by rw [beq_toListBytes]; simp
        rw [hsv]; simp [Instr.keyThatStays, Instr.sameBits, hb]
      simp only [execOp, hq, Instr.mapUpdate, ex, Sem.run_bind, run_und ht, Result.andThen_ok, run_getObj_map h3, Sem.run_pure, run_checkKey hk, Instr.findKey, run_und hk, hf, hkey, hks, hso]
  · cases e1
end
end SX
namespace SX
open Go
set_option linter.unusedVariables false
section
variable {P : Program} {ρ : Val} {m : MM} {live : Nat → Bool} {d : Done} {env : TV} {loc : List AV} {a : Act} {call : Call} {D : Dec} {h h' : H} {v : AV} {ty : TypeId} {X : XOp} {w : World} {L : Nat}
theorem Step.ahead (r : Rel P ρ m h w) (B : Blk) (hL : L ≤ h.next.toNat) : Step P ρ L m h w m (h.alloc B) w where
  ext := Ext.refl m
  rel := r.ahead B
  size := Nat.le_refl _
  framed _ _ _ := rfl
  tape := ⟨rfl, rfl, rfl⟩
  next := by rw [H.alloc_next]; omega
  still p hp hm := by
    have hne : p ≠ h.next := fun e => by rw [e] at hp; omega
    exact ⟨hm, by rw [H.alloc_get, if_neg hne]⟩
  news _ _ hx := .inl hx
  ro p cs hp := by
    have hne : p ≠ h.next := fun e => by have := (r.fresh p (by rw [e]; exact Nat.le_refl _)).2; rw [this] at hp; cases hp
    rw [H.alloc_get, if_neg hne]; exact hp
theorem H.kill_get (p q : Ps) : TB.get q (h.kill p).t = if q = p then .dead else TB.get q h.t := by
  unfold H.kill
  by_cases hq : q = p
  · rw [if_pos hq, hq]; exact TB.get_set_same _ _ _
  · rw [if_neg hq]; exact TB.get_set_other _ _ _ _ hq
theorem Step.kill (r : Rel P ρ m h w) {p : Ps} {x : Nat × Nat × Nat} (hm : m p = some x) (hnro : ∀ cs, TB.get p h.t ≠ .row true cs) : Step P ρ L m h w m (h.kill p) w where
  ext := Ext.refl m
  rel := {
    blk := fun q c' b' z' hq => by
      obtain ⟨h1, h2⟩ := r.blk q c' b' z' hq
      refine ⟨h1, ?_⟩
      rw [H.kill_get]
      by_cases hqp : q = p
      · rw [if_pos hqp]; trivial
      · rw [if_neg hqp]; exact h2
    inj := fun q q' c' b' s b'' s' hq hq' => by
      rw [H.kill_get, H.kill_get]
      rcases r.inj q q' c' b' s b'' s' hq hq' with he | hd | hd
      · exact .inl he
      · by_cases hqp : q = p
        · rw [if_pos hqp]; exact .inr (.inl rfl)
        · rw [if_neg hqp]; exact .inr (.inl hd)
      · by_cases hqp : q' = p
        · rw [if_pos hqp]; exact .inr (.inr rfl)
        · rw [if_neg hqp]; exact .inr (.inr hd)
    fresh := fun q hq => by
      obtain ⟨h1, h2⟩ := r.fresh q hq
      refine ⟨h1, ?_⟩
      rw [H.kill_get]
      by_cases hqp : q = p
      · rw [if_pos hqp]
      · rw [if_neg hqp]; exact h2 }
  size := Nat.le_refl _
  framed _ _ _ := rfl
  tape := ⟨rfl, rfl, rfl⟩
  next := Nat.le_refl _
  still q _ hq := by
    have hqp : q ≠ p := fun e => by rw [e, hm] at hq; cases hq
    exact ⟨hq, by rw [H.kill_get, if_neg hqp]⟩
  news q x hx := .inl hx
  ro q cs hq := by
    have hqp : q ≠ p := fun e => by rw [e] at hq; exact absurd hq (hnro cs)
    rw [H.kill_get, if_neg hqp]; exact hq
theorem Step.drawn (r : Rel P ρ m h w) (n : Nat) : Step P ρ L m h w m h { w with drawn := n } :=
  ⟨Ext.refl m, ⟨r.blk, r.inj, r.fresh⟩, Nat.le_refl _, fun _ _ _ => rfl, ⟨rfl, rfl, rfl⟩, Nat.le_refl _, fun _ _ h => ⟨h, rfl⟩, fun _ _ h => .inl h, fun _ _ h => h⟩
/-- a new block, in both -/
theorem Step.made (r : Rel P ρ m h w) {B : Blk} {o : Obj} {z : Nat} (hn : NewR P ρ m B o z) (hL : L ≤ h.next.toNat) :
    Step P ρ L m h w (upd m h.next (w.heap.size, 0, z)) (h.alloc B) { w with heap := w.heap.push o } := by
  have s := Step.ahead r B hL
  have hg : TB.get h.next (h.alloc B).t = B := by rw [H.alloc_get, if_pos rfl]
  exact s.trans (s.rel.born (r.fresh _ (Nat.le_refl _)).1 hL (by rw [H.alloc_next]; omega) (by rw [hg]; exact hn))
/-- a slice grows where it stands: the new block of the abstract heap is a part of the old one -/
theorem Rel.regrown (r : Rel P ρ m h w) {p q : Ps} {c b z b' L : Nat} (hm : m p = some (c, b, z)) (hd : ∀ p' b' z', m p' = some (c, b', z') → TB.get p' h.t = .dead) (hq : m q = none) (hL : L ≤ q.toNat) (hlt : q.toNat < h.next.toNat) {w' : World}
    (hsz : w'.heap.size = w.heap.size) (hot : ∀ i, i < w.heap.size → i ≠ c → w'.heap[i]? = w.heap[i]?) (htp : w'.tape = w.tape ∧ w'.os = w.os ∧ w'.output = w.output)
    (hB : BlkR P ρ (upd m q (c, b', z)) w' c b' z (TB.get q h.t)) : Step P ρ L m h w (upd m q (c, b', z)) h w' where
  ext := Ext.upd hq
  rel := {
    blk := fun x c' b'' z' hx => by
      by_cases hxq : x = q
      · subst hxq; rw [upd_same] at hx; cases hx
        exact ⟨hsz ▸ (r.blk p _ _ _ hm).1, hB⟩
      · rw [upd_other hxq] at hx
        obtain ⟨h1, h2⟩ := r.blk x _ _ _ hx
        refine ⟨hsz ▸ h1, ?_⟩
        by_cases hc : c' = c
        · subst hc; rw [hd x _ _ hx]; trivial
        · exact h2.mono (Ext.upd hq) (hot c' h1 hc)
    inj := fun x y c' b1 z1 b2 z2 hx hy => by
      by_cases hxq : x = q
      · by_cases hyq : y = q
        · exact .inl (hxq.trans hyq.symm)
        · subst hxq; rw [upd_same] at hx; cases hx
          rw [upd_other hyq] at hy
          exact .inr (.inr (hd y _ _ hy))
      · by_cases hyq : y = q
        · subst hyq; rw [upd_same] at hy; cases hy
          rw [upd_other hxq] at hx
          exact .inr (.inl (hd x _ _ hx))
        · rw [upd_other hxq] at hx; rw [upd_other hyq] at hy
          exact r.inj x y _ _ _ _ _ hx hy
    fresh := fun x hx => by
      have hxq : x ≠ q := fun e => by rw [e] at hx; omega
      rw [upd_other hxq]; exact r.fresh x hx }
  size := Nat.le_of_eq hsz.symm
  framed i hi hn := hot i hi fun e => hn p _ hm (by rw [e])
  tape := htp
  next := Nat.le_refl _
  still x hx hm' := by
    have hxq : x ≠ q := fun e => by rw [e] at hx; omega
    exact ⟨by rw [upd_other hxq]; exact hm', rfl⟩
  news x y hx := by
    by_cases hxq : x = q
    · subst hxq; rw [upd_same] at hx; cases hx; exact .inr (.inr ⟨p, _, hm, rfl⟩)
    · rw [upd_other hxq] at hx; exact .inl hx
  ro _ _ hp := hp
end
end SX
namespace SX
open Go
set_option linter.unusedVariables false
set_option maxRecDepth 8000
section
variable {P : Program} {ρ : Val} {m : MM} {live : Nat → Bool} {d : Done} {env : TV} {loc : List AV} {a : Act} {call : Call} {D : Dec} {h h' : H} {v : AV} {ty : TypeId} {X : XOp} {w : World} {L : Nat}
/-- what is appended: so many elements of a list, or so many zeros -/
inductive AppX (P : Program) (w : World) (i : TypeInfo) (z : Value) (t2 : TypeId) (x : Value) (n : Nat) (news : Array Value) : Prop
  | list (d2 : TypeDesc) (h : P.underlying t2 = some d2) (hn : ∀ k, d2 ≠ .int k) (hl : ∀ w' : World, (Builtin.lenOf x).run P w' = .ok n w')
      (hf : ∀ w' : World, w'.heap = w.heap → (Builtin.firstCells i.size n x).run P w' = .ok news w')
  | zeros (k j : IntKind) (h : P.underlying t2 = some (.int k)) (hx : x = .int j n) (hn : n ≤ 65536) (hnews : news = Builtin.zeroCells z.cells n)
theorem wrap_small {n : Nat} (h : n ≤ 65536) : IntKind.i64.wrap (n : Int) = n := by
  exact wrap_low .i64 n (by simp only [topN]; omega)
theorem run_asInt' (j : IntKind) (n : Int) : (asInt (.int j n)).run P w = .ok n w := by simp [asInt, asIntOf]
theorem notInt {d2 : TypeDesc} (hn : ∀ k, d2 ≠ .int k) : (match d2 with | .int _ => true | _ => false) = false := by
  cases d2 <;> first | rfl | exact absurd rfl (hn _)
theorem append_stay {ats : Array TypeId} {t t2 e : TypeId} {i : TypeInfo} {z : Value} (h0 : ats[0]? = some t) (h1 : ats[1]? = some t2) (ht : P.underlying t = some (.slice e)) (hi : P.info? e = some i) (hz : i.zero = some z)
    (hzs : z.cells.size = i.size) (hb : i.bytes ≤ 65536) {base : Option Addr} {sLen sCap n : Nat} {x : Value} {news : Array Value} (hx : AppX P w i z t2 x n news) (hroom : sLen + n ≤ sCap) {w' : World}
    (hn0 : base = none → w' = w) (hst : ∀ a, base = some a → (storeCells (a.add (sLen * i.size)) news.toList).run P w = .ok () w') :
    (Builtin.append_ ats ty #[.slice base sLen sCap, x]).run P w = .ok (.slice base (sLen + n) sCap) w' := by
  cases hx with
  | list d2 h2 hn hl hf =>
    have hf' := hf w rfl
    have hm := notInt hn
    cases base with
    | none =>
      cases hn0 rfl
      simp [Builtin.append_, h0, h1, run_und ht, run_und h2, Go.sizeOf, typeInfo, hi, hl, hroom, hf']
    | some ad =>
      have hs := hst ad rfl
      simp [Builtin.append_, h0, h1, run_und ht, run_und h2, Go.sizeOf, typeInfo, hi, hl, hroom, hf', hs]
  | zeros k j h2 hx hn hnews =>
    have hw := wrap_small hn
    subst hx
    have hbig : ¬ (281474976710656 : Int) < (n : Int) * (i.bytes : Int) := by
      have h3 : n * i.bytes ≤ 4294967296 := Nat.le_trans (Nat.mul_le_mul hn hb) (by omega)
      rw [← Int.natCast_mul]; omega
    have hneg : ¬ (n : Int) < 0 := by omega
    have happ : n * i.size = 0 → news = #[] := fun h0 => by rw [hnews]; simp [Builtin.zeroCells, hzs, h0]
    cases base with
    | none =>
      cases hn0 rfl
      by_cases hz0 : n * i.size = 0
      · simp [Builtin.append_, h0, h1, run_und ht, run_und h2, Go.sizeOf, typeInfo, hi, run_asInt', hw, hneg, hbig, hroom, hz0]
      · simp [Builtin.append_, h0, h1, run_und ht, run_und h2, Go.sizeOf, typeInfo, hi, run_asInt', hw, hneg, hbig, hroom, hz0, zeroValue, hz]
    | some ad =>
      have hs := hst ad rfl
      by_cases hz0 : n * i.size = 0
      · rw [happ hz0] at hs
        simp [Builtin.append_, h0, h1, run_und ht, run_und h2, Go.sizeOf, typeInfo, hi, run_asInt', hw, hneg, hbig, hroom, hz0, hs]
      · rw [hnews] at hs
        simp [Builtin.append_, h0, h1, run_und ht, run_und h2, Go.sizeOf, typeInfo, hi, run_asInt', hw, hneg, hbig, hroom, hz0, zeroValue, hz, hs]
theorem append_grow {ats : Array TypeId} {t t2 e : TypeId} {i : TypeInfo} {z : Value} (h0 : ats[0]? = some t) (h1 : ats[1]? = some t2) (ht : P.underlying t = some (.slice e)) (hi : P.info? e = some i) (hz : i.zero = some z)
    (hzs : z.cells.size = i.size) (hb : i.bytes ≤ 65536) {base : Option Addr} {sLen sCap n : Nat} {x : Value} {news old : Array Value} (hx : AppX P w i z t2 x n news) (hroom : sCap < sLen + n) (hneed : sLen + n ≤ 1048576)
    (hold : (Builtin.firstCells i.size sLen (.slice base sLen sCap)).run P w.drew = .ok old w.drew) :
    (Builtin.append_ ats ty #[.slice base sLen sCap, x]).run P w =
      .ok (.slice (some ⟨w.heap.size, 0, none⟩) (sLen + n) (grownCap w (sLen + n) sCap e))
        (w.drew.alloc (.cells (old ++ news ++ Builtin.zeroCells z.cells (grownCap w (sLen + n) sCap e - (sLen + n))) e)) := by
  have hn : ¬ (sLen + n ≤ sCap) := by omega
  have h63' : ¬ (9223372036854775807 < ((sLen : Int) + (n : Int))) := by omega
  have hfit : (sLen + n) * i.bytes ≤ 140737488355328 := Nat.le_trans (Nat.mul_le_mul hneed hb) (by omega)
  have h48' : ¬ (281474976710656 < Builtin.nextslicecap (sLen + n) sCap * i.bytes) := by have := growslice_fits hroom hfit; omega
  cases hx with
  | list d2 h2 hni hl hf =>
    have hf' := hf w.drew rfl
    simp [Builtin.append_, h0, h1, run_und ht, run_und h2, Go.sizeOf, typeInfo, zeroValue, hi, hz, hl, hn, h63', h48', Question.forced, hold, hf', Go.newRow, grownCap]
  | zeros k j h2 hx hn' hnews =>
    have hw := wrap_small hn'
    subst hx
    have hbig : ¬ (281474976710656 : Int) < (n : Int) * (i.bytes : Int) := by
      have h3 : n * i.bytes ≤ 4294967296 := Nat.le_trans (Nat.mul_le_mul hn' hb) (by omega)
      rw [← Int.natCast_mul]; omega
    have hneg : ¬ (n : Int) < 0 := by omega
    have happ : n * i.size = 0 → news = #[] := fun h0 => by rw [hnews]; simp [Builtin.zeroCells, hzs, h0]
    have hmx : max (n : Int) 0 = n := by omega
    by_cases hz0 : n * i.size = 0
    · rw [happ hz0]
      simp [Builtin.append_, h0, h1, run_und ht, run_und h2, Go.sizeOf, typeInfo, zeroValue, hi, hz, run_asInt', hw, hneg, hbig, hz0, hn, h63', h48', hmx, Question.forced, hold, Go.newRow, grownCap]
    · rw [hnews]
      simp [Builtin.append_, h0, h1, run_und ht, run_und h2, Go.sizeOf, typeInfo, zeroValue, hi, hz, run_asInt', hw, hneg, hbig, hz0, hn, h63', h48', hmx, Question.forced, hold, Go.newRow, grownCap]
end
end SX
namespace SX
open Go
set_option linter.unusedVariables false
section
variable {P : Program} {ρ : Val} {m : MM} {live : Nat → Bool} {d : Done} {env : TV} {loc : List AV} {a : Act} {call : Call} {D : Dec} {h h' : H} {v : AV} {ty : TypeId} {X : XOp} {w : World} {L : Nat}
theorem OneCells.app {l k : List Value} (h : OneCells l) (h' : OneCells k) : OneCells (l ++ k) := fun u hu => (List.mem_append.1 hu).elim (h u) (h' u)
theorem NewR.pre {cells : List AV} {l rest : List Value} {cs : Array Value} {e : TypeId} {ro : Bool} (hV : Vs ρ m cells l) (h1 : OneCells l) (hcs : cs.toList = l ++ rest) : NewR P ρ m (.row ro cells) (.cells cs e (0, 0)) cs.size := by
  have hlen : cs.size = l.length + rest.length := by have := congrArg List.length hcs; simpa using this
  refine ⟨cs, e, rfl, rfl, by have := hV.length; omega, fun i x hx => ?_⟩
  obtain ⟨u, hu, hu'⟩ := hV.get i x hx
  refine ⟨u, ?_, hu', h1 u (List.mem_of_getElem? hu)⟩
  have hi : i < l.length := (List.getElem?_eq_some_iff.1 hu).1
  rw [← Array.getElem?_toList, hcs, List.getElem?_append_left hi]; exact hu
theorem fresh_step (r : Rel P ρ m h w) {B : Blk} {o : Obj} {z : Nat} (hn : NewR P ρ m B o z) (hL : L ≤ h.next.toNat) :
    Step P ρ L m h w (upd m h.next (w.heap.size, 0, z)) (h.alloc B) (w.drew.alloc o) :=
  (Step.drawn r (w.drawn + 1)).trans (Step.made (Step.drawn (L := L) r (w.drawn + 1)).rel hn hL)
theorem firstCells_none (s n l c : Nat) : (Builtin.firstCells s n (.slice none l c)).run P w = .ok #[] w := by simp [Builtin.firstCells]
theorem firstCells_some {s n l c : Nat} {b o : Nat} {cs : List Value} (hl : cs.length = n * s) (hc : ∀ (j : Nat) (u : Value), cs[j]? = some u → w.cell? ⟨b, o + j, none⟩ = some u) :
    (Builtin.firstCells s n (.slice (some ⟨b, o, none⟩) l c)).run P w = .ok cs.toArray w := by
  simp only [Builtin.firstCells]; rw [← hl]; exact run_loadCells _ b o rfl cs hc
/-- a slice that has no room: a block of its own -/
theorem grow_new (r : Rel P ρ m h w) (hL : L ≤ h.next.toNat) {ats : Array TypeId} {t t2 e : TypeId} {i : TypeInfo} {z : Value} (h0 : ats[0]? = some t) (h1 : ats[1]? = some t2) (ht : P.underlying t = some (.slice e)) (hi : P.info? e = some i) (hz : i.zero = some z)
    (hzs : z.cells.size = i.size) (hb : i.bytes ≤ 65536) {base : Option Addr} {sLen sCap n : Nat} {x : Value} {news : Array Value} {old : List Value} (hx : AppX P w i z t2 x n news) (hroom : sCap < sLen + n) (hneed : sLen + n ≤ 1048576)
    (hold : (Builtin.firstCells i.size sLen (.slice base sLen sCap)).run P w.drew = .ok old.toArray w.drew) (holds : old.length = sLen * i.size) (hnews : news.size = n * i.size) {cs : List AV} (hV : Vs ρ m cs (old ++ news.toList)) (ho1 : OneCells (old ++ news.toList)) :
    ∃ m' w' v', Step P ρ L m h w m' (h.alloc (.row false cs)) w' ∧ V ρ m' (.slice h.next 0 i.size (sLen + n) (sLen + n) false) v' ∧ (Builtin.append_ ats ty #[.slice base sLen sCap, x]).run P w = .ok v' w' := by
  have hge := grownCap_ge w (sLen + n) sCap e
  refine ⟨_, _, _, fresh_step r (NewR.pre (rest := (Builtin.zeroCells z.cells (grownCap w (sLen + n) sCap e - (sLen + n))).toList) hV ho1 ?_) hL, ?_, append_grow h0 h1 ht hi hz hzs hb hx hroom hneed hold⟩
  · simp
  · refine ⟨w.heap.size, 0, _, 0, _, upd_same _ _ _, rfl, fun hf => (by cases hf), hge, .inl ⟨rfl, ?_⟩⟩
    have hsz : (Builtin.zeroCells z.cells (grownCap w (sLen + n) sCap e - (sLen + n))).size = (grownCap w (sLen + n) sCap e - (sLen + n)) * i.size := by rw [size_zeroCells, hzs]
    simp only [Array.size_append, List.size_toArray, holds, hnews, hsz, ← Nat.add_mul]
    apply Nat.le_of_eq
    rw [Nat.zero_add]; congr 1; omega
end
end SX
namespace SX
open Go
set_option linter.unusedVariables false
section
variable {P : Program} {ρ : Val} {m : MM} {live : Nat → Bool} {d : Done} {env : TV} {loc : List AV} {a : Act} {call : Call} {D : Dec} {h h' : H} {v : AV} {ty : TypeId} {X : XOp} {w : World} {L : Nat}
theorem store_run {c z o : Nat} {cs : Array Value} {e : TypeId} {fr : Nat × Nat} (h2 : w.heap[c]? = some (.cells cs e fr)) (h3 : cs.size = z) (h4 : ∀ i, i < z → ¬ (fr.1 ≤ i ∧ i < fr.2)) {l : List Value} (h1 : OneCells l) (hl : o + l.length ≤ z) :
    (storeCells ⟨c, o, none⟩ l).run P w = .ok () (w.setCells c o l) := by
  have hcell : ∀ k, k < z → (w.cell? ⟨c, k, none⟩).isSome = true := fun k hk => by simp [World.cell?, h2]; omega
  have hfr : ∀ k, k < z → w.frozen? ⟨c, k, none⟩ = false := fun k hk => by
    have := h4 k hk
    obtain ⟨f1, f2⟩ := fr
    simp [World.frozen?, h2]
    simp at this
    omega
  have := run_storeCells_cells (P := P) c o l 0 w (fun j hj => hcell _ (by omega)) (fun j hj => hfr _ (by omega)) h1
  simpa using this
/-- a slice of which no more is known than that it may have room -/
theorem grow_slice (r : Rel P ρ m h w) (hL : L ≤ h.next.toNat) {ats : Array TypeId} {t t2 e : TypeId} {i : TypeInfo} {zv : Value} (h0 : ats[0]? = some t) (h1 : ats[1]? = some t2) (ht : P.underlying t = some (.slice e)) (hi : P.info? e = some i) (hz : i.zero = some zv)
    (hzs : zv.cells.size = i.size) (hb : i.bytes ≤ 65536) (hs1 : 1 ≤ i.size) {p : Ps} {c b z o o' l cap cap' n : Nat} {ex : Bool} (hm : m p = some (c, b, z)) (hex : ex = true → cap' = cap) (hcap : cap ≤ cap') (hc : (o' = b + o ∧ o' + cap' * i.size ≤ z) ∨ (l = 0 ∧ cap' = 0))
    {x : Value} {news : Array Value} {new old : List AV} {olds : List Value} (hx : AppX P w i zv t2 x n news) (hN : Vs ρ m new news.toList) (hN1 : OneCells news.toList) (hnews : news.size = n * i.size)
    (hO : Vs ρ m old olds) (hO1 : OneCells olds) (holds : olds.length = l * i.size) (hcells : ∀ (j : Nat) (u : Value), olds[j]? = some u → w.cell? ⟨c, o' + j, none⟩ = some u)
    (hroom : cap < l + n) {u : AV} (e : growTo h p i.size (l + n) ex (old ++ new) = .ok u h') :
    ∃ m' w' v', Step P ρ L m h w m' h' w' ∧ V ρ m' u v' ∧ (Builtin.append_ ats ty #[.slice (some ⟨c, o', none⟩) l cap', x]).run P w = .ok v' w' := by
  obtain ⟨hneed, e1⟩ := bV_yes e
  have hneed := Nat.le_of_ble_eq_true hneed
  have hVs := hO.append hN
  have hon := hO1.app hN1
  have hfc : (Builtin.firstCells i.size l (.slice (some ⟨c, o', none⟩) l cap')).run P w.drew = .ok olds.toArray w.drew := firstCells_some holds hcells
  rcases bV_ok e1 with ⟨h2, e2⟩ | ⟨h2, e2⟩
  · cases e2
    exact grow_new r hL h0 h1 ht hi hz hzs hb hx (by rw [hex h2]; exact hroom) hneed hfc holds hnews hVs hon
  · obtain ⟨ro, cells, h3, e3⟩ := rows_ok e2
    cases ro with
    | true => cases e3
    | false =>
      cases e3
      have sk : Step P ρ L m h w m (h.kill p) w := Step.kill r hm (by rw [h3]; simp)
      by_cases hst : l + n ≤ cap'
      · have hc' : o' = b + o ∧ o' + cap' * i.size ≤ z := by rcases hc with hc | ⟨_, hc⟩
                                                             · exact hc
                                                             · omega
        obtain ⟨hoo, hoz⟩ := hc'
        have hmul : (l + n) * i.size ≤ cap' * i.size := Nat.mul_le_mul_right _ hst
        rw [Nat.add_mul] at hmul
        obtain ⟨hcs, hbk⟩ := r.blk p c b z hm
        rw [h3] at hbk
        obtain ⟨cs, el, fr, g1, g2, g3, g4, _, g5⟩ := hbk
        have hnl : news.toList.length = n * i.size := by simpa using hnews
        have hrun := store_run (P := P) g1 g2 g3 hN1 (o := o' + l * i.size) (by omega)
        obtain ⟨cs', k1, k2, k3, k4⟩ := setCells_obj news.toList (o' + l * i.size) w cs g1 (by omega)
        have sa : Step P ρ L m (h.kill p) w m ((h.kill p).alloc (.row false (old ++ new))) w := Step.ahead sk.rel _ hL
        have hget : TB.get h.next ((h.kill p).alloc (.row false (old ++ new))).t = .row false (old ++ new) := by
          rw [H.alloc_get]; exact if_pos rfl
        have hfresh := (r.fresh h.next (Nat.le_refl _))
        have hdead : ∀ p' b' z', m p' = some (c, b', z') → TB.get p' ((h.kill p).alloc (.row false (old ++ new))).t = .dead := by
          intro p' b' z' hp'
          have hne : p' ≠ h.next := fun e => by rw [e, hfresh.1] at hp'; cases hp'
          rw [H.alloc_get, if_neg (show p' ≠ (h.kill p).next from hne), H.kill_get]
          by_cases hpp : p' = p
          · rw [if_pos hpp]
          · rw [if_neg hpp]
            rcases r.inj p' p _ _ _ _ _ hp' hm with he | hd | hd
            · exact absurd he hpp
            · exact hd
            · rw [h3] at hd; cases hd
        have sg := sa.rel.regrown (q := h.next) (b' := o') (L := L) (w' := w.setCells c (o' + l * i.size) news.toList) hm hdead hfresh.1 hL (by rw [H.alloc_next]; exact Nat.lt_succ_self _)
          (size_setCells c _ _ w) (fun j hj hne => World.heap_setCells_other w c _ _ hj hne) (tape_setCells c _ _ w) (by
            rw [hget]
            refine ⟨cs', el, fr, k1, by omega, g3, ?_, fun h => (by cases h), fun j y hy => ?_⟩
            · have a1 := hO.length
              have a2 := hN.length
              rw [List.length_append]; omega
            · have a1 := hO.length
              obtain ⟨y', hy', hV'⟩ := hVs.get _ _ hy
              refine ⟨y', ?_, V.mono (Ext.upd hfresh.1) _ _ hV', hon _ (List.mem_of_getElem? hy')⟩
              by_cases hj : j < olds.length
              · rw [List.getElem?_append_left hj] at hy'
                have := hcells _ _ hy'
                rw [k3 _ (by omega)]
                simpa [World.cell?, g1] using this
              · rw [List.getElem?_append_right (by omega)] at hy'
                have := k4 _ _ hy'
                rwa [show o' + l * i.size + (j - olds.length) = o' + j by omega] at this)
        refine ⟨_, _, _, sk.trans (sa.trans sg), ?_, append_stay h0 h1 ht hi hz hzs hb hx hst (fun hf => by cases hf) (fun ad had => by cases had; rw [addr_add]; exact hrun)⟩
        exact ⟨c, o', z, o', cap', upd_same _ _ _, rfl, fun hf => (by cases hf), hst, .inl ⟨rfl, hoz⟩⟩
      · obtain ⟨m', w', v', s, hV, hrun⟩ := grow_new sk.rel (show L ≤ (h.kill p).next.toNat from hL) h0 h1 ht hi hz hzs hb hx (by omega) hneed hfc holds hnews hVs hon
        exact ⟨m', w', v', sk.trans s, hV, hrun⟩
end
end SX
namespace SX
open Go
set_option linter.unusedVariables false
section
variable {P : Program} {ρ : Val} {m : MM} {live : Nat → Bool} {d : Done} {env : TV} {loc : List AV} {a : Act} {call : Call} {D : Dec} {h h' : H} {v : AV} {ty : TypeId} {X : XOp} {w : World} {L : Nat}
theorem append_core (r : Rel P ρ m h w) (hL : L ≤ h.next.toNat) {ats : Array TypeId} {t t2 e : TypeId} {i : TypeInfo} {zv : Value} (h0 : ats[0]? = some t) (h1 : ats[1]? = some t2) (ht : P.underlying t = some (.slice e)) (hi : P.info? e = some i) (hz : i.zero = some zv)
    (hzs : zv.cells.size = i.size) (hb : i.bytes ≤ 65536) (hs1 : 1 ≤ i.size) {x s : Value} {n : Nat} {news : Array Value} {new : List AV} (hx : AppX P w i zv t2 x n news) (hN : Vs ρ m new news.toList) (hN1 : OneCells news.toList) (hnews : news.size = n * i.size)
    {av u : AV} (ha : V ρ m av s) (e : appendTo h i.size n new av = .ok u h') :
    ∃ m' w' v', Step P ρ L m h w m' h' w' ∧ V ρ m' u v' ∧ (Builtin.append_ ats ty #[s, x]).run P w = .ok v' w' := by
  rcases appendTo_ok e with ⟨rfl, e1⟩ | ⟨p, o, es, l, cap, ex, rfl, e1⟩
  · have hs : s = .slice none 0 0 := ha
    subst hs
    rcases bV_ok e1 with ⟨h2, e2⟩ | ⟨h2, e2⟩
    · have hn : n = 0 := Nat.eq_of_beq_eq_true h2
      subst hn
      cases e2
      exact ⟨m, w, _, Step.refl r, rfl, append_stay h0 h1 ht hi hz hzs hb hx (by omega) (fun _ => rfl) (fun a ha => by cases ha)⟩
    · have hn : n ≠ 0 := Nat.ne_of_beq_eq_false h2
      obtain ⟨h3, e3⟩ := bV_yes e2
      cases e3
      have hle := Nat.le_of_ble_eq_true h3
      obtain ⟨m', w', v', q1, q2, q3⟩ := grow_new (old := []) r hL h0 h1 ht hi hz hzs hb hx (sLen := 0) (sCap := 0) (base := none) (by omega) (by omega) (firstCells_none _ _ _ _) (by simp) hnews (cs := new) (by simpa using hN) (by simpa using hN1)
      refine ⟨m', w', v', q1, ?_, q3⟩
      rw [Nat.zero_add] at q2; exact q2
  · obtain ⟨c, b, z, o', cap', hm, rfl, hex, hcap, hc⟩ := ha
    obtain ⟨h2, e2⟩ := bV_yes e1
    have hes : es = i.size := Nat.eq_of_beq_eq_true h2
    subst hes
    rcases bV_ok e2 with ⟨h3, e3⟩ | ⟨h3, e3⟩
    · have hle : l + n ≤ cap := Nat.le_of_ble_eq_true h3
      rcases bV_ok e3 with ⟨h4, e4⟩ | ⟨h4, e4⟩
      · have hn : n = 0 := Nat.eq_of_beq_eq_true h4
        subst hn
        cases e4
        have hne : news.toList = [] := by
          have : news.toList.length = 0 := by simpa using hnews
          exact List.length_eq_zero_iff.1 this
        refine ⟨m, w, _, Step.refl r, ⟨c, b, z, o', cap', hm, rfl, hex, hcap, hc⟩, append_stay h0 h1 ht hi hz hzs hb hx (by omega) (fun hf => by cases hf) (fun ad had => ?_)⟩
        rw [hne]; simp [storeCells]
      · have hn : n ≠ 0 := Nat.ne_of_beq_eq_false h4
        obtain ⟨cells, h5, h6, e5⟩ := writeN_ok e4
        have hc' : o' = b + o ∧ o' + cap' * i.size ≤ z := by
          rcases hc with hc | ⟨_, hc⟩
          · exact hc
          · omega
        obtain ⟨hoo, hoz⟩ := hc'
        have ho : Nat.add o (Nat.mul l i.size) = o + l * i.size := rfl
        rw [ho] at h6 e5
        obtain ⟨st, hrun⟩ := write_step (L := L) r hm h5 hN hN1 h6
        cases e5
        refine ⟨m, _, _, st, ⟨c, b, z, o', cap', hm, rfl, hex, hcap, .inl ⟨hoo, hoz⟩⟩, append_stay h0 h1 ht hi hz hzs hb hx (Nat.le_trans hle hcap) (fun hf => by cases hf) (fun ad had => ?_)⟩
        cases had
        rw [addr_add, hoo, Nat.add_assoc]; exact hrun (T := t)
    · have hlt : cap < l + n := by
        rcases Nat.lt_or_ge cap (l + n) with h | h
        · exact h
        · rw [show Nat.ble (Nat.add l n) cap = true from Nat.ble_eq_true_of_le h] at h3; cases h3
      rcases bV_ok e3 with ⟨h4, e4⟩ | ⟨h4, e4⟩
      · have hl : l = 0 := Nat.eq_of_beq_eq_true h4
        subst hl
        exact grow_slice (old := []) (olds := []) r hL h0 h1 ht hi hz hzs hb hs1 hm hex hcap hc hx hN hN1 hnews rfl (fun u hu => by cases hu) (by simp) (fun j u hu => by simp at hu) hlt e4
      · have hl : l ≠ 0 := Nat.ne_of_beq_eq_false h4
        obtain ⟨ro, cells, h5, h6, e5⟩ := readN_ok e4
        have hmul : Nat.mul l i.size = l * i.size := rfl
        rw [hmul] at h6 e5
        rw [appL_eq] at e5
        have hoo : o' = b + o := by rcases hc with hc | ⟨hc, _⟩
                                    · exact hc.1
                                    · exact absurd hc hl
        obtain ⟨olds, g1, g2, g3, g4⟩ := row_cells r hm h5 o (l * i.size) h6
        exact grow_slice r hL h0 h1 ht hi hz hzs hb hs1 hm hex hcap hc hx hN hN1 hnews g2 g3 g1 (by rw [hoo]; exact g4) hlt e5
theorem tzero_info {t : TypeId} {z : List AV} (h : tzero P t = some z) {i : TypeInfo} (hi : P.info? t = some i) : ∃ zv : Value, i.zero = some zv ∧ Vs ρ m z zv.cells.toList ∧ OneCells zv.cells.toList := by
  unfold tzero at h
  rw [hi] at h
  simp only [Option.bind_some] at h
  cases hz : i.zero with
  | none => rw [hz] at h; cases h
  | some zv => rw [hz] at h; exact ⟨zv, rfl, avCells_ok h⟩
/-- how long -/
theorem lenOf_ok {k : Nat → RV} {av u : AV} {x : Value} (e : onLenOf k av = .ok u h') (hx : V ρ m av x) : ∃ n, k n = .ok u h' ∧ ∀ w : World, (Builtin.lenOf x).run P w = .ok n w := by
  rcases onLenOf_ok e with ⟨rfl, e1⟩ | ⟨l, c, rfl, e1⟩ | ⟨p, o, s, l, c, ex, rfl, e1⟩
  · have hx : x = .slice none 0 0 := hx
    subst hx; exact ⟨0, e1, fun w => by simp [Builtin.lenOf]⟩
  · obtain ⟨s, rfl, h1, _⟩ := hx
    exact ⟨l, e1, fun w => by simp [Builtin.lenOf, h1]⟩
  · obtain ⟨c, b, z, o', cap', _, rfl, _⟩ := hx
    exact ⟨l, e1, fun w => by simp [Builtin.lenOf]⟩
/-- its first elements -/
theorem elems_ok (r : Rel P ρ m h w) {k : List AV → RV} {av u : AV} {x : Value} {n N es : Nat} (e : onElems h n es k av = .ok u h') (hx : V ρ m av x) (hN : (Builtin.lenOf x).run P w = .ok N w) (hn : n ≤ N) :
    ∃ new news, k new = .ok u h' ∧ Vs ρ m new news.toList ∧ OneCells news.toList ∧ news.size = n * es ∧ ∀ w' : World, w'.heap = w.heap → (Builtin.firstCells es n x).run P w' = .ok news w' := by
  rcases onElems_ok e with ⟨rfl, e1⟩ | ⟨l, c, rfl, e1⟩ | ⟨p, o, s, l, c, ex, rfl, e1⟩
  · have hx : x = .slice none 0 0 := hx
    subst hx
    simp [Builtin.lenOf] at hN
    have : n = 0 := by omega
    subst this
    exact ⟨[], #[], e1, rfl, fun u hu => (by cases hu), by simp, fun w' _ => by simp [Builtin.firstCells]⟩
  · obtain ⟨s, rfl, h1, h2⟩ := hx
    obtain ⟨h3, e2⟩ := bV_yes e1
    have hes : es = 1 := Nat.eq_of_beq_eq_true h3
    subst hes
    simp [Builtin.lenOf] at hN
    have hds : s.data.size = s.size := rfl
    have hsz : (s.extract 0 n).data.toList = s.data.toList.take n := by simp [ByteArray.data_extract]
    have hlen : s.data.toList.length = s.size := by simpa using hds
    refine ⟨_, ((s.extract 0 n).data.map fun b => .int .u8 b.toNat), e2, ?_, ?_, ?_, fun w' _ => by simp [Builtin.firstCells]⟩
    · rw [Array.toList_map, hsz]
      refine Vs.of_get (by simp [byteCells]; omega) fun j y hj => ?_
      rw [byteCells, List.getElem?_map] at hj
      obtain ⟨q, hq0, rfl⟩ := Option.map_eq_some_iff.1 hj
      obtain ⟨hq1, hq2⟩ := List.getElem?_eq_some_iff.1 hq0
      simp at hq1 hq2
      subst hq2
      have hq : s.data.toList[j]? = some (s.data.toList[j]'(by omega)) := by rw [List.getElem?_eq_getElem]
      refine ⟨.int .u8 ((s.data.toList[j]'(by omega)).toNat : Int), by rw [List.getElem?_map, List.getElem?_take_of_lt hq1, hq]; rfl, ?_⟩
      have := strOfList_byte s.data.toList j _ hq
      rw [h2] at this
      show _ = Value.int .u8 ((strByte c j : Nat) : Int)
      rw [this]
    · intro y hy
      rw [Array.toList_map] at hy
      obtain ⟨b, _, rfl⟩ := List.mem_map.1 hy
      rfl
    · have : (s.extract 0 n).data.size = n := by
        have := congrArg List.length hsz
        simp at this; simp; omega
      rw [Array.size_map, this, Nat.mul_one]
  · obtain ⟨c', b, z, o', cap', hm, rfl, hex, hcap, hc⟩ := hx
    simp [Builtin.lenOf] at hN
    subst hN
    rcases bV_ok e1 with ⟨h2, e2⟩ | ⟨h2, e2⟩
    · have hn0 : n = 0 := Nat.eq_of_beq_eq_true h2
      subst hn0
      exact ⟨[], #[], e2, rfl, fun u hu => (by cases hu), by simp, fun w' _ => firstCells_some (cs := []) (by simp) (fun j u hu => by simp at hu)⟩
    · have hn0 : n ≠ 0 := Nat.ne_of_beq_eq_false h2
      obtain ⟨ro, cells, h5, h6, e5⟩ := readN_ok e2
      have hmul : Nat.mul n es = n * es := rfl
      rw [hmul] at h6 e5
      have hoo : o' = b + o := by rcases hc with hc | ⟨hc, _⟩
                                  · exact hc.1
                                  · omega
      obtain ⟨olds, g1, g2, g3, g4⟩ := row_cells r hm h5 o (n * es) h6
      refine ⟨_, olds.toArray, e5, by simpa using g2, by simpa using g3, by simpa using g1, fun w' hw' => firstCells_some g1 fun j u hu => ?_⟩
      have := g4 j u hu
      rw [hoo]
      simp only [World.cell?, hw'] at this ⊢; exact this
end
end SX
namespace SX
open Go
set_option linter.unusedVariables false
section
variable {P : Program} {ρ : Val} {m : MM} {live : Nat → Bool} {d : Done} {env : TV} {loc : List AV} {a : Act} {call : Call} {D : Dec} {h h' : H} {v : AV} {ty : TypeId} {X : XOp} {w : World} {L : Nat}
theorem append_world (r : Rel P ρ m h w) (hL : L ≤ h.next.toNat) {c : Go.Call} {t t2 e₀ : TypeId} {d2 : TypeDesc} {s : Nat} {z : List AV} {x y : Operand} {ox oy : Opd} (hc : c.callee = .builtin .append) (hargs : c.args = #[x, y]) (h0 : c.argTypes[0]? = some t) (h1 : c.argTypes[1]? = some t2)
    (ht : P.underlying t = some (.slice e₀)) (ht2 : P.underlying t2 = some d2) (hni : ∀ k, d2 ≠ .int k) (hs : tsmall P e₀ = some s) (hz : tzero P e₀ = some z) (hzl : z.length = s)
    (hx : V ρ m (opd env loc ox) (a.eval x)) (hy : V ρ m (opd env loc oy) (a.eval y)) (e : xAppend s ox oy call D env loc h = .ok v h') : WorldR P ρ L m h w (.call c) ty a v h' := by
  obtain ⟨i, hi, hby, h1s, hsz, hts⟩ := tsmall_ok hs
  obtain ⟨zv, hzi, hzV, hz1⟩ := tzero_info (ρ := ρ) (m := m) hz hi
  have hzs : zv.cells.size = i.size := by have := hzV.length; simp at this; omega
  subst hsz
  obtain ⟨n, e1, hlen⟩ := lenOf_ok e hy
  obtain ⟨new, news, e2, g1, g2, g3, g4⟩ := elems_ok r e1 hy (hlen w) (Nat.le_refl _)
  have hX : AppX P w i zv t2 (a.eval y) n news := .list d2 ht2 hni hlen g4
  obtain ⟨m', w', v', q1, q2, q3⟩ := append_core (ty := ty) r hL h0 h1 ht hi hzi hzs hby h1s hX g1 g2 g3 hx e2
  refine ⟨m', w', v', _, q1, q2, .inl rfl, fun q hq hty => ?_⟩
  simp [execOp, hq, resolve, hc, hargs, invoke, builtin, hty, q3]
theorem appendZ_world (r : Rel P ρ m h w) (hL : L ≤ h.next.toNat) {c : Go.Call} {t t2 e₀ : TypeId} {k2 : IntKind} {s : Nat} {z : List AV} {x y : Operand} {ox oy : Opd} (hc : c.callee = .builtin .append) (hargs : c.args = #[x, y]) (h0 : c.argTypes[0]? = some t) (h1 : c.argTypes[1]? = some t2)
    (ht : P.underlying t = some (.slice e₀)) (ht2 : P.underlying t2 = some (.int k2)) (hs : tsmall P e₀ = some s) (hz : tzero P e₀ = some z) (hzl : z.length = s)
    (hx : V ρ m (opd env loc ox) (a.eval x)) (hy : V ρ m (opd env loc oy) (a.eval y)) (e : xAppendZ s z ox oy call D env loc h = .ok v h') : WorldR P ρ L m h w (.call c) ty a v h' := by
  obtain ⟨i, hi, hby, h1s, hsz, hts⟩ := tsmall_ok hs
  obtain ⟨zv, hzi, hzV, hz1⟩ := tzero_info (ρ := ρ) (m := m) hz hi
  have hzs : zv.cells.size = i.size := by have := hzV.length; simp at this; omega
  subst hsz
  obtain ⟨k, n, ho, e1⟩ := onIdx_ok e
  obtain ⟨hn, e2⟩ := bV_yes e1
  have hn := Nat.le_of_ble_eq_true hn
  rw [ho] at hy
  have ey : a.eval y = .int k (n : Int) := hy
  obtain ⟨g1, g2⟩ := zeros_ok (ρ := ρ) (m := m) hzV hz1 n
  have hX : AppX P w i zv t2 (a.eval y) n (Builtin.zeroCells zv.cells n) := .zeros k2 k ht2 ey hn rfl
  obtain ⟨m', w', v', q1, q2, q3⟩ := append_core (ty := ty) r hL h0 h1 ht hi hzi hzs hby h1s hX g1 g2 (by rw [size_zeroCells, hzs]) hx e2
  refine ⟨m', w', v', _, q1, q2, .inl rfl, fun q hq hty => ?_⟩
  simp [execOp, hq, resolve, hc, hargs, invoke, builtin, hty, q3]
theorem first0 {x : Value} {n s : Nat} (hl : (Builtin.lenOf x).run P w = .ok n w) : (Builtin.firstCells s 0 x).run P w = .ok #[] w := by
  cases x with
  | slice b l c => cases b with
    | none => simp [Builtin.firstCells]
    | some b => simp [Builtin.firstCells, loadCells, loadCellsFrom]
  | string t => simp [Builtin.firstCells]
  | _ => simp [Builtin.lenOf] at hl
theorem copy_world (r : Rel P ρ m h w) {c : Go.Call} {t e₀ : TypeId} {s : Nat} {x y : Operand} {ox oy : Opd} (hc : c.callee = .builtin .copy) (hargs : c.args = #[x, y]) (h0 : c.argTypes[0]? = some t)
    (ht : P.underlying t = some (.slice e₀)) (hs : tsmall P e₀ = some s)
    (hx : V ρ m (opd env loc ox) (a.eval x)) (hy : V ρ m (opd env loc oy) (a.eval y)) (e : xCopy s ox oy call D env loc h = .ok v h') : WorldR P ρ L m h w (.call c) ty a v h' := by
  obtain ⟨i, hi, hby, h1s, hsz, hts⟩ := tsmall_ok hs
  rcases onSlice_ok e with ⟨p, o, es, la, cap, ex, h1, e1⟩ | ⟨h1, e1⟩
  · rw [h1] at hx
    obtain ⟨c', b, z, o', cap', hm, exx, hex, hcap, hcc⟩ := hx
    obtain ⟨lb, e2, hlb⟩ := lenOf_ok (P := P) e1 hy
    rcases bV_ok e2 with ⟨h2, e3⟩ | ⟨h2, e3⟩
    · have hn : Nat.min la lb = 0 := Nat.eq_of_beq_eq_true h2
      have hn' : Nat.min lb la = 0 := by rw [← hn]; exact Nat.min_comm _ _
      cases e3
      refine ⟨m, w, .int .i64 0, .value (.int .i64 0), Step.refl r, rfl, .inl rfl, fun q hq hty => ?_⟩
      simp [execOp, hq, resolve, hc, hargs, invoke, builtin, Builtin.copy_, h0, run_und ht, exx, hlb, run_size hts, hn', first0 (hlb w), goInt, storeCells]
    · have hn : Nat.min la lb ≠ 0 := Nat.ne_of_beq_eq_false h2
      have hn' : Nat.min lb la = Nat.min la lb := Nat.min_comm _ _
      obtain ⟨new, news, e4, g1, g2, g3, g4⟩ := elems_ok r e3 hy (hlb w) (Nat.min_le_right _ _)
      obtain ⟨cells, h5, h6, e5⟩ := writeN_ok e4
      have hla : la ≠ 0 := fun h => hn (by rw [h]; exact Nat.zero_min _)
      have hoo : o' = b + o := by rcases hcc with hc | ⟨hc, _⟩
                                  · exact hc.1
                                  · exact absurd hc hla
      obtain ⟨st, hrun⟩ := write_step (L := L) r hm h5 g1 g2 h6
      cases e5
      refine ⟨m, _, .int .i64 (Nat.min la lb : Nat), .value (.int .i64 (Nat.min la lb : Nat)), st, rfl, .inl rfl, fun q hq hty => ?_⟩
      have hru := hrun (T := t)
      rw [← hoo] at hru ⊢
      simp [execOp, hq, resolve, hc, hargs, invoke, builtin, Builtin.copy_, h0, run_und ht, exx, hlb, run_size hts, hn', g4 w rfl, goInt, hru]
  · rw [h1] at hx
    have exx : a.eval x = .slice none 0 0 := hx
    obtain ⟨lb, e2, hlb⟩ := lenOf_ok (P := P) e1 hy
    cases e2
    refine ⟨m, w, .int .i64 0, .value (.int .i64 0), Step.refl r, rfl, .inl rfl, fun q hq hty => ?_⟩
    simp [execOp, hq, resolve, hc, hargs, invoke, builtin, Builtin.copy_, h0, run_und ht, exx, hlb, run_size hts, first0 (hlb w), goInt]
theorem clearSl_world (r : Rel P ρ m h w) {c : Go.Call} {t e₀ : TypeId} {s : Nat} {z : List AV} {x : Operand} {ox : Opd} (hc : c.callee = .builtin .clear) (hargs : c.args = #[x]) (h0 : c.argTypes[0]? = some t)
    (ht : P.underlying t = some (.slice e₀)) (hs : tsmall P e₀ = some s) (hz : tzero P e₀ = some z) (hzl : z.length = s)
    (hx : V ρ m (opd env loc ox) (a.eval x)) (e : xClearSl z ox call D env loc h = .ok v h') : WorldR P ρ L m h w (.call c) ty a v h' := by
  obtain ⟨zv, hzr, hzV, hz1⟩ := tzero_ok (ρ := ρ) (m := m) hz
  rcases onSlice_ok e with ⟨p, o, es, la, cap, ex, h1, e1⟩ | ⟨h1, e1⟩
  · rw [h1] at hx
    obtain ⟨c', b, zz, o', cap', hm, exx, hex, hcap, hcc⟩ := hx
    rcases bV_ok e1 with ⟨h2, e3⟩ | ⟨h2, e3⟩
    · have hn : la = 0 := Nat.eq_of_beq_eq_true h2
      subst hn
      cases e3
      refine ⟨m, w, .tuple #[], .value (.tuple #[]), Step.refl r, ⟨#[], rfl, rfl⟩, .inl rfl, fun q hq hty => ?_⟩
      simp [execOp, hq, resolve, hc, hargs, invoke, builtin, Builtin.clear_, h0, run_und ht, exx]
    · have hn : la ≠ 0 := Nat.ne_of_beq_eq_false h2
      obtain ⟨cells, h5, h6, e5⟩ := writeN_ok e3
      have hoo : o' = b + o := by rcases hcc with hc | ⟨hc, _⟩
                                  · exact hc.1
                                  · exact absurd hc hn
      have g := zeros_ok (ρ := ρ) (m := m) hzV hz1 la
      have g1 : Vs ρ m (repL z la) (Builtin.zeroCells zv.cells la).toList := g.1
      have g2 : OneCells (Builtin.zeroCells zv.cells la).toList := g.2
      clear g
      obtain ⟨st, hrun⟩ := write_step (L := L) r hm h5 g1 g2 h6
      cases e5
      refine ⟨m, _, .tuple #[], .value (.tuple #[]), st, ⟨#[], rfl, rfl⟩, .inl rfl, fun q hq hty => ?_⟩
      have hru := hrun (T := t)
      rw [← hoo] at hru ⊢
      cases la with
      | zero => exact absurd rfl hn
      | succ la => simp only [execOp, hq, resolve, hc, hargs, invoke, builtin, Builtin.clear_, h0, run_und ht, exx]; simp [run_und ht, exx, hzr, hru, h0]
  · rw [h1] at hx
    have exx : a.eval x = .slice none 0 0 := hx
    cases e1
    refine ⟨m, w, .tuple #[], .value (.tuple #[]), Step.refl r, ⟨#[], rfl, rfl⟩, .inl rfl, fun q hq hty => ?_⟩
    simp [execOp, hq, resolve, hc, hargs, invoke, builtin, Builtin.clear_, h0, run_und ht, exx]
end
end SX
namespace SX
open Go
set_option linter.unusedVariables false
def OpR (P : Program) (ρ : Val) (L : Nat) (m : MM) (h : H) (w : World) (o : Op) (ty : TypeId) (a : Act) (v : AV) (h' : H) : Cls → Prop
  | .pure => h' = h ∧ PureR P ρ m o ty a v
  | .read => h' = h ∧ ReadR P ρ m w o ty a v
  | .alloc => ∃ B, h' = h.alloc B ∧ AllocR P ρ m o ty a h.next v B
  | .world => WorldR P ρ L m h w o ty a v h'
section
variable {P : Program} {ρ : Val} {m : MM} {live : Nat → Bool} {d : Done} {env : TV} {loc : List AV} {a : Act} {call : Call} {D : Dec} {h h' : H} {v : AV} {ty : TypeId} {X : XOp} {w : World} {L : Nat}
theorem bind_inv {α β : Type} {o : Option α} {f : α → Option β} {x : β} (e : o.bind f = some x) : ∃ y, o = some y ∧ f y = some x := Option.bind_eq_some_iff.1 e
theorem intKind_inv {t : Nat} (e : intKind P t = true) : ∃ k, P.underlying t = some (.int k) := by
  unfold intKind at e; split at e
  · exact ⟨_, by assumption⟩
  · cases e
theorem strKind_inv {t : Nat} (e : strKind P t = true) : P.underlying t = some .string := by
  unfold strKind at e; split at e
  · assumption
  · cases e
theorem bad_no {Q : Prop} (e : evalOp .bad call D env loc h = .ok v h') : Q := by
  have e' : RV.fail = RV.ok v h' := e; cases e'
theorem ol_inv (hop : OpdsR ρ m live d env loc a) : ∀ {l : List Operand} {ol' : List Opd}, ol live d l = some ol' → Vs ρ m (opds env loc ol') (l.map a.eval) := by
  intro l; induction l with
  | nil => intro ol' e; cases (Option.some.inj e); rfl
  | cons x l ih =>
    intro ol' e
    have e' : mapO (trOpd live d) (x :: l) = some ol' := e
    rw [mapO] at e'
    cases h1 : trOpd live d x with
    | none => rw [h1] at e'; cases e'
    | some y =>
      rw [h1] at e'
      cases h2 : mapO (trOpd live d) l with
      | none => rw [h2] at e'; cases e'
      | some r => rw [h2] at e'; cases (Option.some.inj e'); exact ⟨_, _, rfl, hop _ _ h1, ih h2⟩
/-- an operator -/
theorem bin_ok (hD : DecOK ρ D) (hop : OpdsR ρ m live d env loc a) {b : BinOp} {t t' : TypeId} {x y : Operand} (ht : trBin P live d b t x y = some X) (e : evalOp X call D env loc h = .ok v h') : h' = h ∧ PureR P ρ m (.binOp b t x y t') ty a v := by
  unfold trBin at ht
  cases b with
  | add =>
    simp only at ht
    split at ht
    · obtain ⟨ox, oy, h1, h2, rfl⟩ := o2_inv ht; exact arith_pure (call := call) (D := D) (.inl rfl) (hop _ _ h1) (hop _ _ h2) e
    · split at ht
      · obtain ⟨ox, oy, h1, h2, rfl⟩ := o2_inv ht; exact cat_pure (call := call) hD (hop _ _ h1) (hop _ _ h2) e
      · cases ht
  | sub =>
    simp only at ht
    split at ht
    · obtain ⟨ox, oy, h1, h2, rfl⟩ := o2_inv ht; exact arith_pure (call := call) (D := D) (.inr (.inl rfl)) (hop _ _ h1) (hop _ _ h2) e
    · cases ht
  | mul =>
    simp only at ht
    split at ht
    · obtain ⟨ox, oy, h1, h2, rfl⟩ := o2_inv ht; exact arith_pure (call := call) (D := D) (.inr (.inr rfl)) (hop _ _ h1) (hop _ _ h2) e
    · cases ht
  | quo =>
    simp only at ht
    split at ht
    · obtain ⟨ox, oy, h1, h2, rfl⟩ := o2_inv ht; exact quo_pure (call := call) (D := D) hD (hop _ _ h1) (hop _ _ h2) e
    · cases ht
  | rem =>
    simp only at ht
    split at ht
    · obtain ⟨ox, oy, h1, h2, rfl⟩ := o2_inv ht; exact rem_pure (call := call) (D := D) hD (hop _ _ h1) (hop _ _ h2) e
    · cases ht
  | shl =>
    simp only at ht
    split at ht
    · obtain ⟨ox, oy, h1, h2, rfl⟩ := o2_inv ht; exact shl_pure (call := call) (D := D) (hop _ _ h1) (hop _ _ h2) e
    · cases ht
  | shr =>
    simp only at ht
    split at ht
    · obtain ⟨ox, oy, h1, h2, rfl⟩ := o2_inv ht; exact shr_pure (call := call) (D := D) (hop _ _ h1) (hop _ _ h2) e
    · cases ht
  | lss =>
    simp only at ht
    split at ht
    · obtain ⟨ox, oy, h1, h2, rfl⟩ := o2_inv ht; exact lt_pure (call := call) (D := D) (hop _ _ h1) (hop _ _ h2) e (.inl ⟨rfl, rfl, rfl, rfl⟩)
    · cases ht; exact bad_no e
  | gtr =>
    simp only at ht
    split at ht
    · obtain ⟨ox, oy, h1, h2, rfl⟩ := o2_inv ht; exact lt_pure (call := call) (D := D) (hop _ _ h1) (hop _ _ h2) e (.inr (.inl ⟨rfl, rfl, rfl, rfl⟩))
    · cases ht; exact bad_no e
  | leq =>
    simp only at ht
    split at ht
    · obtain ⟨ox, oy, h1, h2, rfl⟩ := o2_inv ht; exact lt_pure (call := call) (D := D) (hop _ _ h1) (hop _ _ h2) e (.inr (.inr (.inl ⟨rfl, rfl, rfl, rfl⟩)))
    · cases ht
  | geq =>
    simp only at ht
    split at ht
    · obtain ⟨ox, oy, h1, h2, rfl⟩ := o2_inv ht; exact lt_pure (call := call) (D := D) (hop _ _ h1) (hop _ _ h2) e (.inr (.inr (.inr ⟨rfl, rfl, rfl, rfl⟩)))
    · cases ht
  | eql =>
    simp only at ht
    split at ht
    · rename_i k hk; obtain ⟨ox, oy, h1, h2, rfl⟩ := o2_inv ht; exact eq_pure (call := call) (D := D) (.inl ⟨rfl, rfl⟩) hk (hop _ _ h1) (hop _ _ h2) e
    · rename_i hk; obtain ⟨ks, h3, ht⟩ := bind_inv ht; obtain ⟨ox, oy, h1, h2, rfl⟩ := o2_inv ht; exact eqA_pure (call := call) (D := D) hD (.inl ⟨rfl, rfl⟩) h3 hk (hop _ _ h1) (hop _ _ h2) e
  | neq =>
    simp only at ht
    split at ht
    · rename_i k hk; obtain ⟨ox, oy, h1, h2, rfl⟩ := o2_inv ht; exact eq_pure (call := call) (D := D) (.inr ⟨rfl, rfl⟩) hk (hop _ _ h1) (hop _ _ h2) e
    · rename_i hk; obtain ⟨ks, h3, ht⟩ := bind_inv ht; obtain ⟨ox, oy, h1, h2, rfl⟩ := o2_inv ht; exact eqA_pure (call := call) (D := D) hD (.inr ⟨rfl, rfl⟩) h3 hk (hop _ _ h1) (hop _ _ h2) e
  | and =>
    simp only at ht
    split at ht
    · obtain ⟨ox, oy, h1, h2, rfl⟩ := o2_inv ht; exact bits_pure (call := call) (D := D) (.inl rfl) (hop _ _ h1) (hop _ _ h2) e
    · cases ht
  | or =>
    simp only at ht
    split at ht
    · obtain ⟨ox, oy, h1, h2, rfl⟩ := o2_inv ht; exact bits_pure (call := call) (D := D) (.inr (.inl rfl)) (hop _ _ h1) (hop _ _ h2) e
    · cases ht
  | xor =>
    simp only at ht
    split at ht
    · obtain ⟨ox, oy, h1, h2, rfl⟩ := o2_inv ht; exact bits_pure (call := call) (D := D) (.inr (.inr (.inl rfl))) (hop _ _ h1) (hop _ _ h2) e
    · cases ht
  | andNot =>
    simp only at ht
    split at ht
    · obtain ⟨ox, oy, h1, h2, rfl⟩ := o2_inv ht; exact bits_pure (call := call) (D := D) (.inr (.inr (.inr rfl))) (hop _ _ h1) (hop _ _ h2) e
    · cases ht
end
end SX
namespace SX
open Go
set_option linter.unusedVariables false
section
variable {P : Program} {ρ : Val} {m : MM} {live : Nat → Bool} {d : Done} {env : TV} {loc : List AV} {a : Act} {call : Call} {D : Dec} {h h' : H} {v : AV} {ty : TypeId} {X : XOp} {w : World} {L : Nat}
theorem cat_id (hD : DecOK ρ D) {x : Operand} {ox : Opd} {s t : TypeId} (ht : P.underlying t = some .string) (hs : P.underlying s = some .string) (hx : V ρ m (opd env loc ox) (a.eval x))
    (e : xCat ox (.const (.str 0 0)) call D env loc h = .ok v h') : h' = h ∧ PureR P ρ m (.convert s t x) ty a v := by
  rcases onStrX_ok e with ⟨l, c, h1, e1⟩ | ⟨p, h1, e1⟩ <;> rw [h1] at hx
  · have e1 : bV (Nat.ble (Nat.add l 0) 1099511627776) (.ok (.str (Nat.add l 0) (strCat l c 0)) h) .fail = .ok v h' := e1
    obtain ⟨hb, e2⟩ := bV_yes e1
    obtain ⟨u, hu, hl, hc⟩ := hx
    cases e2
    refine ⟨rfl, .string u, ⟨u, rfl, hl, ?_⟩, fun y w hy _ => ?_⟩
    · show strOfList _ = c + 0 <<< (8 * l)
      rw [hc, Nat.zero_shiftLeft, Nat.add_zero]
    · simp [execOp, hy, hu, convert, run_und ht, run_und hs]
  · have e1 : catS D p (.lit 0 0) h = .ok v h' := e1
    have hu : a.eval x = .string (p.den ρ) := hx
    rcases ifV_ok hD e1 with ⟨hd, e⟩ | ⟨_, e⟩ <;> cases e
    refine ⟨rfl, .string (p.den ρ), ?_, fun y w hy _ => by simp [execOp, hy, hu, convert, run_und ht, run_und hs]⟩
    show Value.string (p.den ρ) = Value.string (p.den ρ ++ strBytes 0 0)
    have : strBytes 0 0 = ByteArray.empty := rfl
    rw [this]; simp
theorem op_ok1 {op : Op} (hD : DecOK ρ D) (r : (cls P op).isF = false → Rel P ρ m h w) (hop : OpdsR ρ m live d env loc a) (ht : trOp P live d op = some X) (e : evalOp X call D env loc h = .ok v h')
    (hc : ∀ c, op ≠ .call c) : OpR P ρ L m h w op ty a v h' (cls P op) := by
  cases op with
  | call c => exact absurd rfl (hc c)
  | pick c x y => obtain ⟨oc, ox, oy, h1, h2, h3, rfl⟩ := o3_inv ht; exact pick_pure (call := call) hD (hop _ _ h1) (hop _ _ h2) (hop _ _ h3) e
  | alloc t =>
    unfold trOp at ht
    simp only at ht
    cases hz : tzero P t with
    | none => rw [hz] at ht; cases ht
    | some z => rw [hz] at ht; cases ht; obtain ⟨B, g1, g2, g3⟩ := alloc_alloc (call := call) (D := D) (env := env) (loc := loc) hz e; exact ⟨B, g1, g3⟩
  | box t x => obtain ⟨ox, h1, rfl⟩ := o1_inv ht; obtain ⟨B, g1, g2, g3⟩ := box_alloc (call := call) (D := D) (hop _ _ h1) e; exact ⟨B, g1, g3⟩
  | binOp b t x y t' => exact bin_ok hD hop ht e
  | nilCheck x => obtain ⟨ox, h1, rfl⟩ := o1_inv ht; exact nilCheck_pure (call := call) (D := D) (hop _ _ h1) e
  | extract x i => obtain ⟨ox, h1, rfl⟩ := o1_inv ht; exact extract_pure (call := call) (D := D) (hop _ _ h1) e
  | buildSlice t n ps =>
    unfold trOp at ht
    simp only at ht
    split at ht
    · rename_i e₀ hu
      obtain ⟨s, hs, ht⟩ := bind_inv ht
      obtain ⟨z, hz, ht⟩ := bind_inv ht
      split at ht
      · cases ht
      · rename_i hn
        split at ht
        · rename_i hzl
          cases hl : parts live d (fun i => some (i * s, s)) ps.toList with
          | none => rw [hl] at ht; cases ht
          | some l =>
            rw [hl] at ht; cases ht
            obtain ⟨B, g1, g2, g3⟩ := buildSlice_alloc (call := call) (D := D) (t := t) hop hu hs hz (Nat.eq_of_beq_eq_true hzl) (by simpa using hn) hl e
            exact ⟨B, g1, g3⟩
        · cases ht
    · cases ht
  | load t x =>
    unfold trOp at ht
    simp only at ht
    obtain ⟨n, hn, ht⟩ := bind_inv ht
    cases n with
    | none => obtain ⟨ox, h1, rfl⟩ := o1_inv ht; exact load1_read (call := call) (D := D) (r rfl) hn (hop _ _ h1) e
    | some n => obtain ⟨ox, h1, rfl⟩ := o1_inv ht; exact loadN_read (call := call) (D := D) (r rfl) hn (hop _ _ h1) e
  | store t x y =>
    unfold trOp at ht
    simp only at ht
    obtain ⟨n, hn, ht⟩ := bind_inv ht
    obtain ⟨ox, oy, h1, h2, rfl⟩ := o2_inv ht
    exact store_world (call := call) (D := D) (r rfl) hn (hop _ _ h1) (hop _ _ h2) e
  | unOp u t x =>
    unfold trOp at ht
    cases u with
    | not => obtain ⟨ox, h1, rfl⟩ := o1_inv ht; exact not_pure (call := call) (D := D) (hop _ _ h1) e
    | neg =>
      simp only at ht
      split at ht
      · obtain ⟨ox, h1, rfl⟩ := o1_inv ht; exact neg_pure (call := call) (D := D) (hop _ _ h1) e
      · cases ht
    | _ => cases ht
  | makeFunc f xs ys =>
    unfold trOp at ht
    cases f with
    | func f =>
      simp only at ht
      obtain ⟨os, h1, ht⟩ := bind_inv ht
      cases h2 : ol live d ys.toList with
      | none => rw [h2] at ht; cases ht
      | some os' => rw [h2] at ht; cases ht; exact mkFunc_pure (call := call) (D := D) (ol_inv hop h1) (ol_inv hop h2) e _ _ rfl rfl
    | _ => cases ht; exact bad_no e
  | makeMap t x =>
    unfold trOp at ht
    cases x with
    | none => cases ht; obtain ⟨B, g1, g2, g3⟩ := mkMap_alloc (call := call) (D := D) (env := env) (loc := loc) (P := P) (ρ := ρ) (m := m) (a := a) (ty := ty) (t := t) e; exact ⟨B, g1, g3⟩
    | some x => cases ht; exact bad_no e
  | makeSlice t x y =>
    unfold trOp at ht
    simp only at ht
    split at ht
    · rename_i e₀ hu
      obtain ⟨s, hs, ht⟩ := bind_inv ht
      obtain ⟨z, hz, ht⟩ := bind_inv ht
      split at ht
      · rename_i hzl
        obtain ⟨ox, oy, h1, h2, rfl⟩ := o2_inv ht
        obtain ⟨B, g1, g2, g3⟩ := mkSlice_alloc (call := call) (D := D) (t := t) hu hs hz (Nat.eq_of_beq_eq_true hzl) (hop _ _ h1) (hop _ _ h2) e
        exact ⟨B, g1, g3⟩
      · cases ht
    · cases ht
  | lookup t x i ok =>
    unfold trOp at ht
    simp only at ht
    split at ht
    · rename_i kt e₀ hu
      split at ht
      · rename_i hk
        obtain ⟨z, hz, ht⟩ := bind_inv ht
        obtain ⟨ox, oi, h1, h2, rfl⟩ := o2_inv ht
        cases ok with
        | true => exact lookupOk_read (call := call) hD (r rfl) hu (strKind_inv hk) hz (hop _ _ h1) (hop _ _ h2) e
        | false => exact lookup_read (call := call) hD (r rfl) hu (strKind_inv hk) hz (hop _ _ h1) (hop _ _ h2) e
      · cases ht
    · cases ht
  | mapUpdate t x i y =>
    unfold trOp at ht
    simp only at ht
    split at ht
    · rename_i kt e₀ hu
      split at ht
      · rename_i hk
        obtain ⟨ox, oi, oy, h1, h2, h3, rfl⟩ := o3_inv ht
        exact mapUpd_world (call := call) hD (r rfl) hu (strKind_inv hk) (hop _ _ h1) (hop _ _ h2) (hop _ _ h3) e
      · cases ht
    · cases ht
  | build t ps =>
    unfold trOp at ht
    simp only at ht
    obtain ⟨z, hz, ht⟩ := bind_inv ht
    split at ht
    · rename_i fs hu
      split at ht
      · rename_i hall
        cases hl : parts live d (fun i => (fs[i]?).bind fun (f : Field) => (tsize P f.type).map fun s => (f.offset, s)) ps.toList with
        | none => rw [hl] at ht; cases ht
        | some l =>
          rw [hl] at ht; cases ht
          exact build_pure (call := call) (D := D) hop hu hz (fun f hf => Option.isSome_iff_exists.1 (List.all_eq_true.1 hall f hf)) hl e
      · cases ht
    · cases ht; exact bad_no e
    · cases ht
  | convert s t x =>
    unfold trOp at ht
    simp only at ht
    split at ht
    · rename_i k₀ k hs hu
      obtain ⟨ox, h1, rfl⟩ := o1_inv ht
      have hcl : cls P (.convert s t x) = .pure := by simp [cls, hs]
      rw [hcl]
      exact conv_pure (call := call) hD hs hu (hop _ _ h1) e
    · rename_i k₀ hs hu
      obtain ⟨ox, h1, rfl⟩ := o1_inv ht
      have hcl : cls P (.convert s t x) = .pure := by simp [cls, hs]
      rw [hcl]
      exact toStr_pure (call := call) (D := D) hs hu (hop _ _ h1) e
    · rename_i hs hu
      obtain ⟨ox, h1, rfl⟩ := o1_inv ht
      have hcl : cls P (.convert s t x) = .pure := by simp [cls, hs, hu]
      rw [hcl]
      exact cat_id (call := call) hD hu hs (hop _ _ h1) e
    · cases ht; exact bad_no e
  | makeInterface t x =>
    unfold trOp at ht
    simp only at ht
    split at ht
    · cases ht
    · rename_i dd hn hu
      obtain ⟨ox, h1, rfl⟩ := o1_inv ht
      exact mkIface_pure (call := call) (D := D) hu (fun ms hm => hn ms hm) (hop _ _ h1) e
    · cases ht
  | fieldAddr t x f =>
    unfold trOp at ht
    simp only at ht
    split at ht
    · rename_i fs hu
      obtain ⟨fd, hf, ht⟩ := bind_inv ht
      obtain ⟨s, hs, ht⟩ := bind_inv ht
      split at ht
      · cases ht
      · rename_i h0
        obtain ⟨ox, h1, rfl⟩ := o1_inv ht
        exact fieldAddr_pure (call := call) (D := D) hu hf hs (fun h => h0 (by rw [h]; rfl)) (hop _ _ h1) e
    · cases ht
  | field t x f =>
    unfold trOp at ht
    simp only at ht
    split at ht
    · rename_i fs hu
      obtain ⟨fd, hf, ht⟩ := bind_inv ht
      obtain ⟨n, hn, ht⟩ := bind_inv ht
      cases n with
      | none => obtain ⟨ox, h1, rfl⟩ := o1_inv ht; exact field1_pure (call := call) (D := D) hu hf hn (hop _ _ h1) e
      | some n => obtain ⟨ox, h1, rfl⟩ := o1_inv ht; exact fieldN_pure (call := call) (D := D) hu hf hn (hop _ _ h1) e
    · cases ht
  | indexAddr t x i =>
    unfold trOp at ht
    simp only at ht
    split at ht
    · rename_i n e₀ hu
      obtain ⟨s, hs, ht⟩ := bind_inv ht
      obtain ⟨ox, oi, h1, h2, rfl⟩ := o2_inv ht
      exact indexArr_pure (call := call) (D := D) hu hs (hop _ _ h1) (hop _ _ h2) e
    · rename_i e₀ hu
      obtain ⟨s, hs, ht⟩ := bind_inv ht
      obtain ⟨ox, oi, h1, h2, rfl⟩ := o2_inv ht
      exact indexSl_pure (call := call) (D := D) hu hs (hop _ _ h1) (hop _ _ h2) e
    · cases ht
  | index t x i =>
    unfold trOp at ht
    simp only at ht
    split at ht
    · rename_i hu
      obtain ⟨ox, oi, h1, h2, rfl⟩ := o2_inv ht
      exact indexStr_pure (call := call) hD hu (hop _ _ h1) (hop _ _ h2) e
    · cases ht; exact bad_no e
    · cases ht
  | slice t x lo hi mx =>
    unfold trOp at ht
    simp only at ht
    obtain ⟨ox, h1, ht⟩ := bind_inv ht
    obtain ⟨olo, h2, ht⟩ := bind_inv ht
    obtain ⟨ohi, h3, ht⟩ := bind_inv ht
    obtain ⟨omx, h4, ht⟩ := bind_inv ht
    split at ht
    · rename_i hu
      split at ht
      · cases ht
        cases mx with
        | none => exact sliceStr_pure (call := call) hD hop hu h1 h2 h3 e
        | some y =>
          have h4' : (trOpd live d y).map some = some none := h4
          cases hy : trOpd live d y with
          | none => rw [hy] at h4'; cases h4'
          | some oy => rw [hy] at h4'; cases h4'
      · cases ht
    · rename_i e₀ hu
      obtain ⟨s, hs, ht⟩ := bind_inv ht
      have h7 : mx.isSome = true → hi.isSome = true := by
        intro hm
        cases mx with
        | none => cases hm
        | some y =>
          have h4' : (trOpd live d y).map some = some omx := h4
          cases hy : trOpd live d y with
          | none => rw [hy] at h4'; cases h4'
          | some oy =>
            rw [hy] at h4'; cases h4'
            cases hi with
            | some _ => rfl
            | none => cases (Option.some.inj (show some none = some ohi from h3)); cases ht
      have hX : X = .sliceSl s ox olo ohi omx := by
        cases omx <;> cases ohi <;> first | cases ht | skip
        all_goals rfl
      subst hX
      exact sliceSl_pure (call := call) (D := D) hop hu hs h1 h2 h3 h4 h7 e
    · cases ht; exact bad_no e
    · cases ht
  | defer c => cases ht
  | _ => cases ht; exact bad_no e
end
end SX
namespace SX
open Go
set_option linter.unusedVariables false
section
variable {P : Program} {ρ : Val} {m : MM} {live : Nat → Bool} {d : Done} {env : TV} {loc : List AV} {a : Act} {call : Call} {D : Dec} {h h' : H} {v : AV} {ty : TypeId} {X : XOp} {w : World} {L : Nat}
theorem ol1 {l : List Operand} {x : Opd} (e : ol live d l = some [x]) : ∃ y, l = [y] ∧ trOpd live d y = some x := by
  cases l with
  | nil => cases e
  | cons y l =>
    have e' : mapO (trOpd live d) (y :: l) = some [x] := e
    rw [mapO] at e'
    cases h1 : trOpd live d y with
    | none => rw [h1] at e'; cases e'
    | some z =>
      rw [h1] at e'
      cases h2 : mapO (trOpd live d) l with
      | none => rw [h2] at e'; cases e'
      | some r =>
        rw [h2] at e'
        cases (Option.some.inj e')
        cases l with
        | nil => exact ⟨y, rfl, h1⟩
        | cons u l =>
          rw [mapO] at h2
          cases h3 : trOpd live d u with
          | none => rw [h3] at h2; cases h2
          | some z' =>
            rw [h3] at h2
            cases h4 : mapO (trOpd live d) l with
            | none => rw [h4] at h2; cases h2
            | some r => rw [h4] at h2; cases h2
theorem ol2 {l : List Operand} {x y : Opd} (e : ol live d l = some [x, y]) : ∃ x' y', l = [x', y'] ∧ trOpd live d x' = some x ∧ trOpd live d y' = some y := by
  cases l with
  | nil => cases e
  | cons u l =>
    have e' : mapO (trOpd live d) (u :: l) = some [x, y] := e
    rw [mapO] at e'
    cases h1 : trOpd live d u with
    | none => rw [h1] at e'; cases e'
    | some z =>
      rw [h1] at e'
      cases h2 : mapO (trOpd live d) l with
      | none => rw [h2] at e'; cases e'
      | some r =>
        rw [h2] at e'
        cases (Option.some.inj e')
        obtain ⟨y', rfl, h3⟩ := ol1 (l := l) h2
        exact ⟨u, y', rfl, h1, h3⟩
theorem toArr {α : Type} {A : Array α} {l : List α} (h : A.toList = l) : A = l.toArray := by rw [← h]
theorem op_ok2 {c : Go.Call} (hD : DecOK ρ D) (r : (cls P (.call c)).isF = false → Rel P ρ m h w) (hL : L ≤ h.next.toNat) (hop : OpdsR ρ m live d env loc a) {b : Builtin} (hb : c.callee = .builtin b) (ht : trOp P live d (.call c) = some X) (e : evalOp X call D env loc h = .ok v h') :
    OpR P ρ L m h w (.call c) ty a v h' (cls P (.call c)) := by
  unfold trOp at ht
  simp only [hb] at ht
  obtain ⟨as, h1, ht⟩ := bind_inv ht
  have hat : ∀ {i : Nat} {D : TypeDesc}, (c.argTypes[i]?).bind P.underlying = some D → ∃ t, c.argTypes[i]? = some t ∧ P.underlying t = some D := fun h => bind_inv h
  split at ht
  · obtain ⟨x, hx, h2⟩ := ol1 h1
    have hcl : cls P (.call c) = .read := by simp [cls, hb]
    rw [hcl]
    split at ht
    · rename_i hu; cases ht; obtain ⟨t, g1, g2⟩ := hat hu; exact lenS_read (call := call) (D := D) g2 (hop _ _ h2) e c hb (toArr hx) g1
    · rename_i hu; cases ht; obtain ⟨t, g1, g2⟩ := hat hu; exact lenL_read (call := call) (D := D) g2 (hop _ _ h2) e c hb (toArr hx) g1
    · rename_i hu; cases ht; obtain ⟨t, g1, g2⟩ := hat hu; exact lenM_read (call := call) (D := D) (r (by rw [hcl]; rfl)) g2 (hop _ _ h2) e c hb (toArr hx) g1
    · cases ht; exact bad_no e
  · obtain ⟨x, hx, h2⟩ := ol1 h1
    have hcl : cls P (.call c) = .pure := by simp [cls, hb]
    rw [hcl]
    split at ht
    · rename_i hu; cases ht; obtain ⟨t, g1, g2⟩ := hat hu; exact cap_pure (t₂ := t) (call := call) (D := D) g2 (hop _ _ h2) e c hb (toArr hx) g1
    · cases ht; exact bad_no e
  · obtain ⟨x, y, hxy, h2, h3⟩ := ol2 h1
    have hcl : cls P (.call c) = .world := by simp [cls, hb]
    rw [hcl]
    split at ht
    · rename_i e₀ k hu hu2
      obtain ⟨t, g1, g2⟩ := hat hu
      obtain ⟨t2, g3, g4⟩ := hat hu2
      obtain ⟨s, hs, ht⟩ := bind_inv ht
      obtain ⟨z, hz, ht⟩ := bind_inv ht
      split at ht
      · rename_i hzl; cases ht
        exact appendZ_world (call := call) (D := D) (r (by rw [hcl]; rfl)) hL hb (toArr hxy) g1 g3 g2 g4 hs hz (Nat.eq_of_beq_eq_true hzl) (hop _ _ h2) (hop _ _ h3) e
      · cases ht
    · rename_i e₀ d2 hni hu hu2
      obtain ⟨t, g1, g2⟩ := hat hu
      obtain ⟨t2, g3, g4⟩ := hat hu2
      obtain ⟨s, hs, ht⟩ := bind_inv ht
      obtain ⟨z, hz, ht⟩ := bind_inv ht
      split at ht
      · rename_i hzl; cases ht
        exact append_world (call := call) (D := D) (r (by rw [hcl]; rfl)) hL hb (toArr hxy) g1 g3 g2 g4 (fun k hk => hni k hk) hs hz (Nat.eq_of_beq_eq_true hzl) (hop _ _ h2) (hop _ _ h3) e
      · cases ht
    · cases ht
  · obtain ⟨x, y, hxy, h2, h3⟩ := ol2 h1
    have hcl : cls P (.call c) = .world := by simp [cls, hb]
    rw [hcl]
    split at ht
    · rename_i e₀ hu
      obtain ⟨t, g1, g2⟩ := hat hu
      cases hs : tsmall P e₀ with
      | none => rw [hs] at ht; cases ht
      | some s => rw [hs] at ht; cases ht; exact copy_world (call := call) (D := D) (r (by rw [hcl]; rfl)) hb (toArr hxy) g1 g2 hs (hop _ _ h2) (hop _ _ h3) e
    · cases ht
  · obtain ⟨x, y, hxy, h2, h3⟩ := ol2 h1
    have hcl : cls P (.call c) = .pure := by simp [cls, hb]
    rw [hcl]
    cases ht; exact minmax_pure (call := call) (D := D) (mx := false) (hop _ _ h2) (hop _ _ h3) e c hb (toArr hxy)
  · obtain ⟨x, y, hxy, h2, h3⟩ := ol2 h1
    have hcl : cls P (.call c) = .pure := by simp [cls, hb]
    rw [hcl]
    cases ht; exact minmax_pure (call := call) (D := D) (mx := true) (hop _ _ h2) (hop _ _ h3) e c hb (toArr hxy)
  · obtain ⟨x, hx, h2⟩ := ol1 h1
    have hcl : cls P (.call c) = .world := by simp [cls, hb]
    rw [hcl]
    split at ht
    · rename_i e₀ hu
      obtain ⟨t, g1, g2⟩ := hat hu
      obtain ⟨s, hs, ht⟩ := bind_inv ht
      obtain ⟨z, hz, ht⟩ := bind_inv ht
      split at ht
      · rename_i hzl; cases ht
        exact clearSl_world (call := call) (D := D) (r (by rw [hcl]; rfl)) hb (toArr hx) g1 g2 hs hz (Nat.eq_of_beq_eq_true hzl) (hop _ _ h2) e
      · cases ht
    · cases ht; exact bad_no e
  · cases ht; exact bad_no e
end
end SX
namespace SX
open Go
set_option linter.unusedVariables false
/-! ### which operations leave the heap as it is -/
def Ends (Q : H → Prop) (r : RV) : Prop := ∀ v h', r = .ok v h' → Q h'
section
variable {Q : H → Prop} {h : H} {D : Dec} {env : TV} {loc : List AV}
theorem Ends.ok {v : AV} {h : H} (hq : Q h) : Ends Q (.ok v h) := fun v h' e => by cases e; exact hq
theorem Ends.fail : Ends Q .fail := fun v h' e => by cases e
theorem Ends.bV {b : Bool} {x y : RV} (hx : Ends Q x) (hy : Ends Q y) : Ends Q (bV b x y) := fun v h' e => (bV_ok e).elim (fun e => hx _ _ e.2) fun e => hy _ _ e.2
theorem Ends.ifV {s : SB} {x y : RV} (hx : Ends Q x) (hy : Ends Q y) : Ends Q (ifV D s x y) := fun v h' e => by
  cases s with
  | t => exact hx _ _ e
  | f => exact hy _ _ e
  | cmp p r a b =>
    have e' : (match findD r a b D with | some v => (match v == p with | true => x | false => y) | none => RV.need r a b) = .ok v h' := e
    cases hf : findD r a b D with
    | none => rw [hf] at e'; cases e'
    | some u =>
      rw [hf] at e'
      simp only at e'
      split at e'
      · exact hx _ _ e'
      · exact hy _ _ e'
theorem Ends.onPtr {k : Ps → Nat → RV} {v : AV} (hk : ∀ b o, Ends Q (k b o)) : Ends Q (onPtr k v) := fun u h' e => by obtain ⟨b, o, _, e⟩ := onPtr_ok e; exact hk _ _ _ _ e
theorem Ends.onBool {k : SB → RV} {v : AV} (hk : ∀ b, Ends Q (k b)) : Ends Q (onBool k v) := fun u h' e => by obtain ⟨b, _, e⟩ := onBool_ok e; exact hk _ _ _ e
theorem Ends.onInt {k : IntKind → SI → RV} {v : AV} (hk : ∀ b c, Ends Q (k b c)) : Ends Q (onInt k v) := fun u h' e => by obtain ⟨b, c, _, e⟩ := onInt_ok e; exact hk _ _ _ _ e
theorem Ends.onIdx {k : Nat → RV} {v : AV} (hk : ∀ b, Ends Q (k b)) : Ends Q (onIdx k v) := fun u h' e => by obtain ⟨b, c, _, e⟩ := onIdx_ok e; exact hk _ _ _ e
theorem Ends.onStr {k : Nat → Nat → RV} {v : AV} (hk : ∀ b c, Ends Q (k b c)) : Ends Q (onStr k v) := fun u h' e => by obtain ⟨b, c, _, e⟩ := onStr_ok e; exact hk _ _ _ _ e
theorem Ends.onStrX {k : Nat → Nat → RV} {x : SS → RV} {v : AV} (hk : ∀ b c, Ends Q (k b c)) (hx : ∀ e, Ends Q (x e)) : Ends Q (onStrX k x v) := fun u h' e => by
  rcases onStrX_ok e with ⟨b, c, _, e⟩ | ⟨p, _, e⟩
  · exact hk _ _ _ _ e
  · exact hx _ _ _ e
theorem Ends.onIntX {k : SI → RV} {v : AV} (hk : ∀ b, Ends Q (k b)) : Ends Q (onIntX k v) := fun u h' e => by obtain ⟨b, c, _, e⟩ := onIntX_ok e; exact hk _ _ _ e
theorem Ends.catS {p q : SS} (hq : Q h) : Ends Q (catS D p q h) := Ends.ifV (Ends.ok hq) .fail
theorem Ends.byteX {p : SS} {i : SI} (hq : Q h) : Ends Q (byteX D p i h) := by
  unfold SX.byteX; split
  · exact Ends.bV (Ends.ok hq) .fail
  · exact .fail
theorem Ends.partX {p : SS} {i : SI} {j : Option SI} (hq : Q h) : Ends Q (partX D p i j h) := by
  unfold SX.partX; split
  · split
    · exact Ends.bV (Ends.ok hq) .fail
    · exact .fail
  · split
    · exact Ends.ok hq
    · exact .fail
theorem Ends.partL {p : SS} {i j : Option Opd} (hq : Q h) : Ends Q (partL D p h env loc i j) := by
  unfold SX.partL; split
  · exact .fail
  · refine Ends.onIntX fun _ => ?_
    split
    · exact Ends.partX hq
    · exact Ends.onIntX fun _ => Ends.partX hq
theorem Ends.onAgg {k : List AV → RV} {v : AV} (hk : ∀ b, Ends Q (k b)) : Ends Q (onAgg k v) := fun u h' e => by obtain ⟨b, _, e⟩ := onAgg_ok e; exact hk _ _ _ e
theorem Ends.onTup {k : List AV → RV} {v : AV} (hk : ∀ b, Ends Q (k b)) : Ends Q (onTup k v) := fun u h' e => by obtain ⟨b, _, e⟩ := onTup_ok e; exact hk _ _ _ e
theorem Ends.onCells {k : List AV → RV} {v : AV} (hk : ∀ b, Ends Q (k b)) : Ends Q (onCells k v) := fun u h' e => by obtain ⟨b, e, _⟩ := onCells_ok e; exact hk _ _ _ e
theorem Ends.onSlice {z : RV} {k : Ps → Nat → Nat → Nat → Nat → Bool → RV} {v : AV} (hz : Ends Q z) (hk : ∀ a b c d e f, Ends Q (k a b c d e f)) : Ends Q (onSlice z k v) := fun u h' e => by
  rcases onSlice_ok e with ⟨_, _, _, _, _, _, _, e⟩ | ⟨_, e⟩
  · exact hk _ _ _ _ _ _ _ _ e
  · exact hz _ _ e
theorem Ends.onMap {z : RV} {k : Ps → RV} {v : AV} (hz : Ends Q z) (hk : ∀ a, Ends Q (k a)) : Ends Q (onMap z k v) := fun u h' e => by
  rcases onMap_ok e with ⟨_, _, e⟩ | ⟨_, e⟩
  · exact hk _ _ _ e
  · exact hz _ _ e
theorem Ends.okPtr {h : H} {v : AV} (hq : Q h) : Ends Q (okPtr h v) := fun u h' e => by
  rcases okPtr_ok e with ⟨_, _, _, e⟩ | ⟨_, _, _, _, e⟩ | ⟨_, _, e⟩ | ⟨_, _, _, e⟩ <;> exact Ends.ok hq _ _ e
theorem Ends.onInts {f : IntKind → SI → SI → RV} {v w : AV} (hk : ∀ a b c, Ends Q (f a b c)) : Ends Q (onInts f v w) := Ends.onInt fun k a => fun u h' e => by
  obtain ⟨l, b, _, e⟩ := onInt2_ok e
  exact Ends.bV (hk _ _ _) Ends.fail _ _ e
theorem Ends.onStrs {f : Nat → Nat → Nat → Nat → RV} {v w : AV} (hk : ∀ a b c d, Ends Q (f a b c d)) : Ends Q (onStrs f v w) := Ends.onStr fun l c => fun u h' e => by
  obtain ⟨m, d, _, e⟩ := onStr2_ok e
  exact hk _ _ _ _ _ _ e
theorem Ends.onNat {d : RV} {f : Nat → RV} {g : Int → RV} {a : SI} (hd : Ends Q d) (hf : ∀ n, Ends Q (f n)) (hg : ∀ n, Ends Q (g n)) : Ends Q (onNat RV d f g a) := by
  cases a with
  | nat n => exact hf n
  | neg n => exact hg _
  | _ => exact hd
theorem Ends.onLits {k : Int → Int → RV} {a b : SI} (hk : ∀ m n, Ends Q (k m n)) : Ends Q (onLits k a b) := by
  cases a <;> first | exact Ends.fail | skip
  all_goals (cases b <;> first | exact Ends.fail | exact hk _ _)
theorem Ends.onOpt {d : Nat} {k : Nat → RV} {o : Option Opd} (hk : ∀ n, Ends Q (k n)) : Ends Q (onOpt env loc d k o) := by
  cases o with
  | none => exact hk d
  | some x => exact Ends.onIdx hk
theorem Ends.rows {p : Ps} {k : Bool → List AV → RV} (hk : ∀ r c, Ends Q (k r c)) : Ends Q (rows h p k) := fun u h' e => by obtain ⟨r, c, _, e⟩ := rows_ok e; exact hk _ _ _ _ e
theorem Ends.ents {p : Ps} {k : List (AV × AV) → RV} (hk : ∀ c, Ends Q (k c)) : Ends Q (ents h p k) := fun u h' e => by obtain ⟨c, _, e⟩ := ents_ok e; exact hk _ _ _ e
theorem Ends.putAll {k : List AV → RV} (hk : ∀ c, Ends Q (k c)) : ∀ (ps : List (Nat × Nat × Opd)) (z : List AV), Ends Q (putAll env loc k ps z)
  | [], z => hk z
  | x :: ps, z => by
    have e : SX.putAll env loc k (x :: ps) z = SX.onCells (fun cs => SX.bV (and (Nat.beq (lenL cs) x.2.1) (hasL (Nat.add x.1 x.2.1) z)) (SX.putAll env loc k ps (putL x.1 cs z)) .fail) (opd env loc x.2.2) := rfl
    have ih := Ends.putAll hk ps
    rw [e]
    exact Ends.onCells fun cs => Ends.bV (ih _) .fail
theorem Ends.findE {key : AV} {z : RV} {k : AV → RV} (hz : Ends Q z) (hk : ∀ x, Ends Q (k x)) : ∀ (es : List (AV × AV)), Ends Q (findE D key z k es)
  | [] => hz
  | x :: es => Ends.onStrs fun _ _ _ _ => Ends.ifV (hk _) (Ends.findE hz hk es)
theorem Ends.eqv {k : SB → RV} (hk : ∀ s, Ends Q (k s)) (e : EqK) (a b : AV) : Ends Q (eqv e a b k) := by
  cases e with
  | num => exact Ends.onInts fun _ _ _ => hk _
  | str => exact Ends.onStrs fun _ _ _ _ => hk _
  | bool =>
    refine Ends.onBool fun s => Ends.onBool fun r => ?_
    cases s <;> cases r <;> first | exact hk _ | exact Ends.fail
  | nilp =>
    cases a <;> first | exact Ends.fail | skip
    all_goals (cases b <;> first | exact Ends.fail | exact hk _)
  | nils =>
    cases a <;> first | exact Ends.fail | skip
    all_goals (cases b <;> first | exact Ends.fail | exact hk _)
  | nilm =>
    cases a <;> first | exact Ends.fail | skip
    all_goals (cases b <;> first | exact Ends.fail | exact hk _)
  | nilf =>
    cases a <;> first | exact Ends.fail | skip
    all_goals (cases b <;> first | exact Ends.fail | exact hk _)
  | nili =>
    cases a <;> first | exact Ends.fail | skip
    all_goals (cases b <;> first | exact Ends.fail | exact hk _)
theorem Ends.eqCells {ng : Bool} (hq : Q h) : ∀ (ks : List EqK) (a b : List AV), Ends Q (eqCells D h ng ks a b)
  | [], _, _ => Ends.ok hq
  | k :: ks, [], _ => Ends.fail
  | k :: ks, x :: l, [] => Ends.fail
  | k :: ks, x :: l, y :: m => Ends.eqv (fun s => Ends.ifV (Ends.eqCells hq ks l m) (Ends.ok hq)) _ _ _
theorem calm_ends {call : Call} {X : XOp} (hc : xcls X = .pure ∨ xcls X = .read) : Ends (fun h' => h' = h) (evalOp X call D env loc h) := by
  have ok : ∀ v, Ends (fun h' => h' = h) (RV.ok v h) := fun v => Ends.ok (Q := fun h' => h' = h) rfl
  cases X with
  | eqA ng ks a b => exact Ends.onAgg fun _ => Ends.onAgg fun _ => Ends.eqCells (Q := fun h' => h' = h) rfl _ _ _
  | eq ng e a b => show Ends _ (SX.eqv _ _ _ _); exact Ends.eqv (fun s => ok _) _ _ _
  | build z ps => show Ends _ (SX.putAll _ _ _ _ _); exact Ends.putAll (fun _ => ok _) _ _
  | shl a b => exact Ends.onInt fun _ _ => Ends.onIdx fun _ => Ends.onNat .fail (fun _ => ok _) fun _ => ok _
  | shr a b => exact Ends.onInt fun _ _ => Ends.onIdx fun _ => Ends.onNat .fail (fun _ => ok _) fun _ => ok _
  | bits op a b => exact Ends.onInts fun _ _ _ => Ends.onLits fun _ _ => ok _
  | lookup z m k => exact Ends.onMap (ok _) fun _ => Ends.ents fun _ => Ends.findE (ok _) (fun _ => ok _) _
  | lookupOk z m k => exact Ends.onMap (ok _) fun _ => Ends.ents fun _ => Ends.findE (ok _) (fun _ => ok _) _
  | sliceStr a lo hi => exact Ends.onStrX (fun _ _ => Ends.onOpt fun _ => Ends.onOpt fun _ => Ends.bV (ok _) .fail) fun _ => Ends.partL (Q := fun h' => h' = h) rfl
  | sliceSl es a lo hi mx => exact Ends.onSlice (Ends.onOpt fun _ => Ends.onOpt fun _ => Ends.onOpt fun _ => Ends.bV (ok _) .fail) fun _ _ _ _ _ _ => Ends.onOpt fun _ => Ends.onOpt fun _ => Ends.onOpt fun _ => Ends.bV (Ends.bV (ok _) .fail) .fail
  | sliceArr n es a lo hi mx => exact Ends.onPtr fun _ _ => Ends.onOpt fun _ => Ends.onOpt fun _ => Ends.onOpt fun _ => Ends.bV (ok _) .fail
  | pick c a b => exact Ends.onBool fun _ => Ends.ifV (ok _) (ok _)
  | load1 a => exact Ends.onPtr fun _ _ => Ends.rows fun _ _ => Ends.bV (ok _) .fail
  | loadN n a => exact Ends.onPtr fun _ _ => Ends.rows fun _ _ => Ends.bV (ok _) .fail
  | nilCheck a => exact Ends.okPtr (Q := fun h' => h' = h) rfl
  | arith op a b => exact Ends.onInts fun _ _ _ => ok _
  | quo a b => exact Ends.onInts fun _ _ _ => Ends.ifV .fail (ok _)
  | rem a b => exact Ends.onInts fun _ _ _ => Ends.ifV .fail (ok _)
  | lt ng a b => exact Ends.onInts fun _ _ _ => ok _
  | ltS ng a b => exact Ends.onStrs fun _ _ _ _ => ok _
  | cat a b => exact Ends.onStrX (fun _ _ => Ends.onStrX (fun _ _ => Ends.bV (ok _) .fail) fun _ => Ends.catS (Q := fun h' => h' = h) rfl) fun _ => Ends.onStrX (fun _ _ => Ends.catS (Q := fun h' => h' = h) rfl) fun _ => Ends.catS (Q := fun h' => h' = h) rfl
  | neg a => exact Ends.onInt fun _ _ => ok _
  | not a => exact Ends.onBool fun _ => ok _
  | conv k a => exact Ends.onInt fun _ _ => ok _
  | toStr a => exact Ends.onIdx fun _ => Ends.bV (ok _) .fail
  | fieldAddr o a => exact Ends.onPtr fun _ _ => ok _
  | field1 o a => exact Ends.onAgg fun _ => Ends.bV (ok _) .fail
  | fieldN o n a => exact Ends.onAgg fun _ => Ends.bV (ok _) .fail
  | indexArr n es a i => exact Ends.onPtr fun _ _ => Ends.onIdx fun _ => Ends.bV (ok _) .fail
  | indexSl es a i => exact Ends.onSlice .fail fun _ _ _ _ _ _ => Ends.onIdx fun _ => Ends.bV (ok _) .fail
  | indexStr a i => exact Ends.onStrX (fun _ _ => Ends.onIdx fun _ => Ends.bV (ok _) .fail) fun _ => Ends.onIntX fun _ => Ends.byteX (Q := fun h' => h' = h) rfl
  | indexAgg1 n a i => exact Ends.onAgg fun _ => Ends.onIdx fun _ => Ends.bV (Ends.bV (ok _) .fail) .fail
  | indexAggN n es a i => exact Ends.onAgg fun _ => Ends.onIdx fun _ => Ends.bV (Ends.bV (ok _) .fail) .fail
  | lenS a => exact Ends.onStrX (fun _ _ => ok _) fun _ => ok _
  | lenL a => exact Ends.onSlice (ok _) fun _ _ _ _ _ _ => ok _
  | lenM a => exact Ends.onMap (ok _) fun _ => Ends.ents fun _ => ok _
  | cap a => exact Ends.onSlice (ok _) fun _ _ _ _ _ _ => Ends.bV (ok _) .fail
  | minmax mx a b => exact Ends.onInt fun _ _ => Ends.onIdx fun _ => Ends.onIdx fun _ => ok _
  | extract i a => exact Ends.onTup fun _ => Ends.bV (ok _) .fail
  | mv a => exact ok _
  | mkFunc f a b => exact ok _
  | mkIface t a => exact ok _
  | bad => exact Ends.fail
  | _ => rcases hc with hc | hc <;> cases hc
theorem alloc_ends {call : Call} {X : XOp} (hc : xcls X = .alloc) : Ends (fun h' => ∃ B, h' = h.alloc B) (evalOp X call D env loc h) := by
  have ok : ∀ v B, Ends (fun h' => ∃ B, h' = h.alloc B) (RV.ok v (h.alloc B)) := fun v B => Ends.ok (Q := fun h' => ∃ B, h' = h.alloc B) ⟨B, rfl⟩
  cases X with
  | alloc z => exact ok _ _
  | box a => exact Ends.onCells fun _ => ok _ _
  | buildSlice es n z ps => show Ends _ (SX.putAll _ _ _ _ _); exact Ends.putAll (fun _ => ok _ _) _ _
  | mkMap => exact ok _ _
  | mkSlice es z l c => exact Ends.onIdx fun _ => Ends.onIdx fun _ => Ends.bV (ok _ _) .fail
  | _ => cases hc
theorem clsNo_inj {c d : Cls} (h : Nat.beq (clsNo c) (clsNo d) = true) : c = d := by cases c <;> cases d <;> first | rfl | cases h
theorem xcls_of {X : XOp} {c : Cls} (hx : xok X c = true) {call : Call} {v : AV} {h' : H} (e : evalOp X call D env loc h = .ok v h') : xcls X = c := by
  cases X with
  | bad => have e' : RV.fail = RV.ok v h' := e; cases e'
  | _ => exact clsNo_inj hx
end
end SX
end
