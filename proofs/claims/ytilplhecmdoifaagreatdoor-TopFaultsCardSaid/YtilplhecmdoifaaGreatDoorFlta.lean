/-
  TopFaults: its pieces, its loops by hand, what is known of a few functions, the whole walk.
-/
import Derived.Test.YtilplhecmdoifaaGreatDoorSxe
import Derived.Test.YtilplhecmdoifaaGreatDoorCxc
import Derived.Shelf.SlIter.Nil
import Derived.Shelf.SortM.Plain
import Derived.Shelf.SortM.SortNone
import Derived.Ground.GgzProg
import Derived.Ground.SlgmProg
import Derived.Test.YtilplhecmdoifaaGreatDoorProg
set_option linter.all false
noncomputable section
namespace SX
open Go Go.Proofs
set_option linter.unusedVariables false
set_option maxRecDepth 100000
/-! ### blanks, ahead of the first token -/
def pBody : Code → Code | .block _ c => c | .loop c => c | .scope c => c | c => c
def pRight : Code → Code | .seq _ b => b | c => c
def pLeft : Code → Code | .seq a _ => a | c => c
def xBody : XCode → XCode | .block _ c => c | .loop c => c | .scope c _ => c | c => c
def xRight : XCode → XCode | .seq _ b => b | c => c
def xLeft : XCode → XCode | .seq a _ => a | c => c
noncomputable def blC : Code := pBody (pBody (pRight (pBody (Tryz.f42.body.getD .skip))))
noncomputable def blX : XCode := xBody (xBody (xRight (xBody x42.body)))
theorem bl_body : Tryz.f42.body = some (.scope (.seq (.label 0) (.block 0 (.loop blC)))) := by kernel_rfl
theorem bl_x : x42.body = .scope (.seq (.label 0) (.block 0 (.loop blX))) (.seq (.label 0) (.block 0 (.loop blX))) := by kernel_rfl
noncomputable def blL : Nat → Bool := liveOf Tryz.f42 (.scope (.seq (.label 0) (.block 0 (.loop blC))))
theorem bl_lt : ∀ t, blL t = true → t < Tryz.f42.ntmps := (trFunc_live bl_body t42).1
theorem bl_l0 : blL 0 = true := by kernel_rfl
theorem bl_tr : trCode Tryz.prog blL Tryz.f42.ntmps false blC = blX := by
  have h3 := (trFunc_live bl_body t42).2.2.2.2
  rw [bl_x] at h3
  have h3' : XCode.scope (.seq (.label 0) (.block 0 (.loop blX))) (.seq (.label 0) (.block 0 (.loop blX))) =
    .scope (.seq (.label 0) (.block 0 (.loop (trCode Tryz.prog blL Tryz.f42.ntmps false blC)))) (.seq (.label 0) (.block 0 (.loop (trCode Tryz.prog blL Tryz.f42.ntmps false blC)))) := h3
  injection h3' with h4 _
  injection h4 with _ h5
  injection h5 with _ h6
  injection h6 with h7
noncomputable def K0 (D : Dec) : Known := ⟨xtree.get, fun _ => none, D⟩
theorem K0_ok {ρ : Val} {D : Dec} (hD : DecOK ρ D) : KnownOK Tryz.prog ρ (K0 D) where
  dec := hD
  fn f _ := by
    rcases FT.get_ok xtree_ok f with ⟨fn, h1, h2⟩ | h
    · exact .inl ⟨fn, h1, h2⟩
    · exact .inr h
  spec f s h := by cases h
theorem mixed : Tryz.prog.follows .mixedOrders = true := by kernel_rfl
/-- the scanner's row -/
def rowB (i l q : SI) : Blk := .row false [.sx (.var 0), .int .i64 i, .int .i64 l, .int .i64 q]
def envB : TV := TV.set (.ptr .h 0) (Ps.ofNat 0) .lf
def seen (r : RC) (e : Ex → Bool) (i l q : SI) : Bool := match r with
  | .ok x env h => e x && avEq (TV.get (Ps.ofNat 0) env) (.ptr .h 0) && (match TB.get .h h.t with | .row false cs => avEqs cs [.sx (.var 0), .int .i64 i, .int .i64 l, .int .i64 q] | _ => false)
  | _ => false
def isNormal : Ex → Bool | .normal => true | _ => false
def isExit0 : Ex → Bool | .exit 0 => true | _ => false
theorem seen_inv {r : RC} {p : Ex → Bool} {i l q : SI} (h : seen r p i l q = true) : ∃ x env hh, r = .ok x env hh ∧ p x = true ∧ TV.get (Ps.ofNat 0) env = .ptr .h 0 ∧ TB.get .h hh.t = rowB i l q := by
  cases r with
  | ok x env hh =>
    simp only [seen, Bool.and_eq_true] at h
    obtain ⟨⟨h1, h2⟩, h3⟩ := h
    refine ⟨x, env, hh, rfl, h1, avEq_eq _ _ h2, ?_⟩
    split at h3
    · rename_i cs hc
      rw [hc, avEqs_eq _ _ h3]; rfl
    · cases h3
  | _ => cases h
def dLt (e : SS) (a : SI) (v : Bool) : Rl × SI × SI × Bool := (.lt, a, .len e, v)
def plus (a : SI) (n : Nat) : SI := .bin .add .i64 a (.nat n)
/-- a line's end; a blank; a remark; something else -/
def dNl : Dec := ⟨[dLt (.var 0) (.var 0) true], [(.var 0, .var 0, 1, 10, false)]⟩
def dSp : Dec := ⟨[dLt (.var 0) (.var 0) true], [(.var 0, .var 0, 1, 32, false)]⟩
def dN : Dec := ⟨[dLt (.var 0) (.var 0) true], [(.var 0, .var 0, 1, 110, false)]⟩
/-- "# node tel\n" -/
def remCode : Nat := strOfList [35, 32, 110, 111, 100, 101, 32, 116, 101, 108, 10]
def dRem : Dec := ⟨dLt (.var 0) (.var 0) true :: (List.range 11).map fun a => dLt (.var 0) (plus (.var 0) a) true, [(.var 0, .var 0, 11, remCode, false)]⟩
noncomputable def blRun (D : Dec) : RC := evC blX (cxN 10 (K0 D)) envB (hOne (rowB (.var 0) (.var 1) (.var 2)))
theorem run_nl : seen (blRun dNl) isNormal (plus (.var 0) 1) (plus (.var 1) 1) (.nat 1) = true := by kernel_rfl
theorem run_sp : seen (blRun dSp) isNormal (plus (.var 0) 1) (.var 1) (plus (.var 2) 1) = true := by kernel_rfl
theorem run_n : seen (blRun dN) isExit0 (.var 0) (.var 1) (.var 2) = true := by kernel_rfl
theorem run_rem : seen (blRun dRem) isNormal (plus (.var 0) 10) (.var 1) (plus (.var 2) 10) = true := by kernel_rfl
/-- the scanner's cells -/
def Cell4 (w : World) (c b z : Nat) (S : ByteArray) (i l q : Int) : Prop := ∃ cs e fr, w.heap[c]? = some (.cells cs e fr) ∧ cs.size = z ∧ (∀ i, i < z → ¬ (fr.1 ≤ i ∧ i < fr.2)) ∧ b + 4 ≤ z ∧
  cs[b]? = some (.string S) ∧ cs[b + 1]? = some (.int .i64 i) ∧ cs[b + 2]? = some (.int .i64 l) ∧ cs[b + 3]? = some (.int .i64 q)
section
variable {ρ : Val} {m m' : MM} {w w' : World} {c b z : Nat} {a : Act}
theorem cell4_of {i l q : SI} (h : BlkR Tryz.prog ρ m w c b z (rowB i l q)) : Cell4 w c b z (ρ.s 0) (i.den ρ) (l.den ρ) (q.den ρ) := by
  obtain ⟨cs, e, fr, h1, h2, h3, h4, _, h5⟩ := h
  refine ⟨cs, e, fr, h1, h2, h3, h4, ?_, ?_, ?_, ?_⟩
  · obtain ⟨v, hv, hV, _⟩ := h5 0 (.sx (.var 0)) rfl; rw [Nat.add_zero] at hv; rw [hv, show v = _ from hV]; rfl
  · obtain ⟨v, hv, hV, _⟩ := h5 1 (.int .i64 i) rfl; rw [hv, show v = _ from hV]
  · obtain ⟨v, hv, hV, _⟩ := h5 2 (.int .i64 l) rfl; rw [hv, show v = _ from hV]
  · obtain ⟨v, hv, hV, _⟩ := h5 3 (.int .i64 q) rfl; rw [hv, show v = _ from hV]
theorem of_cell4 {S : ByteArray} {i l q : Int} (h : Cell4 w c b z S i l q) {e : SS} {x y u : SI} (hS : e.den ρ = S) (hx : x.den ρ = i) (hy : y.den ρ = l) (hu : u.den ρ = q) :
    BlkR Tryz.prog ρ m w c b z (.row false [.sx e, .int .i64 x, .int .i64 y, .int .i64 u]) := by
  obtain ⟨cs, t, fr, h1, h2, h3, h4, g0, g1, g2, g3⟩ := h
  refine ⟨cs, t, fr, h1, h2, h3, h4, fun h => (by cases h), fun j a hj => ?_⟩
  match j, hj with
  | 0, hj => cases hj; exact ⟨_, g0, by show _ = Value.string _; rw [hS], rfl⟩
  | 1, hj => cases hj; exact ⟨_, g1, by show _ = Value.int _ _; rw [hx], rfl⟩
  | 2, hj => cases hj; exact ⟨_, g2, by show _ = Value.int _ _; rw [hy], rfl⟩
  | 3, hj => cases hj; exact ⟨_, g3, by show _ = Value.int _ _; rw [hu], rfl⟩
  | j + 4, hj => cases hj
/-- one time around -/
theorem bl_iter {D : Dec} {p : Ex → Bool} {i' l' q' : SI} (hrun : seen (blRun D) p i' l' q' = true) (hD : DecOK ρ D) {B : Nat} (hc : c < w.heap.size) (hB : Cell4 w c b z (ρ.s 0) (ρ.i 0) (ρ.i 1) (ρ.i 2))
    (hptr : a.tmps.getD 0 undef = .pointer (some ⟨c, b, none⟩)) (hnt : Tryz.f42.ntmps ≤ a.tmps.size) (hd : DefOK B (one .h (c, b, z)) w a.defers) (fr : Frame) (hfr : fr.roundOf = none) (k : List Item) (cs : List Frame) :
    ∃ e a' w', p e = true ∧ a'.tmps.getD 0 undef = .pointer (some ⟨c, b, none⟩) ∧ a'.tmps.size = a.tmps.size ∧ DefOK B (one .h (c, b, z)) w' a'.defers ∧ Cell4 w' c b z (ρ.s 0) (i'.den ρ) (l'.den ρ) (q'.den ρ) ∧
      w.heap.size ≤ w'.heap.size ∧ (∀ j, j < w.heap.size → j ≠ c → w'.heap[j]? = w.heap[j]?) ∧ (w'.tape = w.tape ∧ w'.os = w.os ∧ w'.output = w.output) ∧
      Arr Tryz.prog (lone (fr.atR a (.code blC :: k)) cs w) fr k cs e a' w' := by
  obtain ⟨e, env', h', hev, hp, henv, hrow⟩ := seen_inv hrun
  have hcode := code_ok mixed (cxN_ok mixed (K0_ok hD) 10) bl_lt blC false
  rw [bl_tr] at hcode
  have hrel : Rel Tryz.prog ρ (one .h (c, b, z)) (hOne (rowB (.var 0) (.var 1) (.var 2))) w := Rel.single hc (of_cell4 hB rfl rfl rfl rfl)
  have henvR : EnvR ρ (one .h (c, b, z)) blL envB a.tmps := by
    intro t ht
    by_cases h0 : t = 0
    · subst h0
      have : TV.get (Ps.ofNat 0) envB = .ptr .h 0 := rfl
      rw [this, hptr]
      exact ⟨c, b, z, one_same .., rfl⟩
    · have : TV.get (Ps.ofNat t) envB = .bot := (TV.get_set_other _ _ _ _ (fun h => h0 (Ps.ofNat_inj h))).trans (TV.get_lf _)
      rw [this]; trivial
  obtain ⟨m', a', w', hst, henv', hsz, hd', harr⟩ := hcode.run hev hrel (Nat.zero_le _) henvR hnt hd fr k cs (fun _ => hfr)
  have hm' : m' .h = some (c, b, z) := hst.ext _ _ (one_same ..)
  refine ⟨e, a', w', hp, ?_, hsz, hd'.sub hst.ext, ?_, hst.size, fun j hj hjc => ?_, hst.tape, harr⟩
  · have h0 := henv' 0 bl_l0
    rw [henv] at h0
    obtain ⟨c', b', z', h1, h2⟩ := h0
    rw [hm'] at h1; cases h1
    exact h2
  · have := (hst.rel.blk _ _ _ _ hm').2
    rw [hrow] at this
    exact cell4_of this
  · exact hst.framed j hj fun q x hq => by
      obtain ⟨_, he⟩ := one_inv hq
      rw [he]; exact fun h => hjc h.symm
end
end SX
namespace SX
open Go Go.Proofs
set_option linter.unusedVariables false
set_option maxRecDepth 100000
section
variable {ρ : Val} {m m' : MM} {w w' : World} {c b z : Nat} {a : Act}
theorem window_of {n : Nat} {x : UInt8} {bs rest : List UInt8} (h : (ρ.s 0).data.toList.drop n = (x :: bs) ++ rest) (hi : ρ.i 0 = n) (hsz : (ρ.s 0).size ≤ 1099511627776) :
    Window ρ (.var 0) (.var 0) (x :: bs).length (strOfList (x :: bs)) false ∧ n + (x :: bs).length ≤ (ρ.s 0).size := by
  have hlen := congrArg List.length h
  have hs : (ρ.s 0).data.toList.length = (ρ.s 0).size := by simp
  rw [List.length_drop, hs, List.length_append] at hlen
  have hle : n + (x :: bs).length ≤ (ρ.s 0).size := by simp at hlen ⊢; omega
  have he : ((ρ.s 0).extract n (n + (x :: bs).length)).data.toList = x :: bs := by
    rw [Lib.extract_data, h, Nat.add_sub_cancel_left, List.take_left']
    rfl
  refine ⟨⟨n, hi, hle, hsz, ?_, ?_, fun h => by cases h⟩, hle⟩
  · have := congrArg List.length he
    show ((ρ.s 0).extract n (n + (x :: bs).length)).size = _
    simp at this ⊢; omega
  · show strOfList ((ρ.s 0).extract n (n + (x :: bs).length)).data.toList = _
    rw [he]
theorem dec_one {n : Nat} {x : UInt8} {rest : List UInt8} (h : (ρ.s 0).data.toList.drop n = x :: rest) (hi : ρ.i 0 = n) (hsz : (ρ.s 0).size ≤ 1099511627776) {k : Nat} (hk : strOfList [x] = k) :
    DecOK ρ ⟨[dLt (.var 0) (.var 0) true], [(.var 0, .var 0, 1, k, false)]⟩ := by
  obtain ⟨hw, hle⟩ := window_of (bs := []) h hi hsz
  constructor
  · intro r u v t hm
    simp only [List.mem_singleton, dLt] at hm
    cases hm
    show decide (ρ.i 0 < ((ρ.s 0).size : Int)) = true
    simp at hle
    rw [hi]; exact decide_eq_true (by omega)
  · intro e u l k' z hm
    simp only [List.mem_singleton] at hm
    cases hm
    rw [← hk]; exact hw
theorem dec_rem {n : Nat} {rest : List UInt8} (h : (ρ.s 0).data.toList.drop n = [35, 32, 110, 111, 100, 101, 32, 116, 101, 108, 10] ++ rest) (hi : ρ.i 0 = n) (hsz : (ρ.s 0).size ≤ 1099511627776) : DecOK ρ dRem := by
  obtain ⟨hw, hle⟩ := window_of (x := 35) (bs := [32, 110, 111, 100, 101, 32, 116, 101, 108, 10]) h hi hsz
  simp only [List.length_cons, List.length_nil] at hle
  constructor
  · intro r u v t hm
    rcases List.mem_cons.1 hm with hm | hm
    · cases hm
      show decide (ρ.i 0 < ((ρ.s 0).size : Int)) = true
      rw [hi]; exact decide_eq_true (by omega)
    · obtain ⟨k, hk, he⟩ := List.mem_map.1 hm
      have hk' := List.mem_range.1 hk
      cases he
      show decide (IntKind.i64.wrap (ρ.i 0 + (k : Int)) < ((ρ.s 0).size : Int)) = true
      rw [hi, wrap_small64 (by omega) (by omega)]; exact decide_eq_true (by omega)
  · intro e u l k' z hm
    simp only [dRem, List.mem_singleton] at hm
    cases hm
    exact hw
/-! what lies ahead of a text -/
inductive Ck where | rem | nl | sp
def Ck.bs : Ck → List UInt8
  | .rem => [35, 32, 110, 111, 100, 101, 32, 116, 101, 108]
  | .nl => [10]
  | .sp => [32]
def Ck.go : Ck → Nat × Nat × Nat → Nat × Nat × Nat
  | .rem, (i, l, q) => (i + 10, l, q + 10)
  | .nl, (i, l, _) => (i + 1, l + 1, 1)
  | .sp, (i, l, q) => (i + 1, l, q + 1)
def posOf (ck : List Ck) : Nat × Nat × Nat := ck.foldl (fun s k => k.go s) (0, 1, 1)
theorem posOf_snoc (ck : List Ck) (k : Ck) : posOf (ck ++ [k]) = k.go (posOf ck) := by simp [posOf]
theorem foldl_len : ∀ (ck : List Ck) (s : Nat × Nat × Nat), (ck.foldl (fun s k => k.go s) s).1 = s.1 + (ck.flatMap Ck.bs).length
  | [], s => rfl
  | k :: ck, (i, l, q) => by
    rw [List.foldl_cons, foldl_len ck]
    cases k <;> simp [Ck.go, Ck.bs] <;> omega
theorem foldl_le : ∀ (ck : List Ck) (s : Nat × Nat × Nat), (ck.foldl (fun s k => k.go s) s).2.1 ≤ s.2.1 + (ck.flatMap Ck.bs).length ∧ (ck.foldl (fun s k => k.go s) s).2.2 ≤ s.2.2 + 1 + (ck.flatMap Ck.bs).length
  | [], s => ⟨Nat.le_refl _, by simp⟩
  | k :: ck, (i, l, q) => by
    rw [List.foldl_cons]
    obtain ⟨h1, h2⟩ := foldl_le ck (k.go (i, l, q))
    cases k <;> simp [Ck.go, Ck.bs] at h1 h2 ⊢ <;> constructor <;> omega
def val4 (S : ByteArray) (s : Nat × Nat × Nat) : Val := ⟨fun j => match j with | 0 => s.1 | 1 => s.2.1 | _ => s.2.2, fun _ => S, fun _ => undef⟩
/-- the state of the scanner ahead of a piece -/
structure BSt (W : World) (c b z : Nat) (S : ByteArray) (s : Nat × Nat × Nat) (a : Act) (w : World) : Prop where
  ptr : a.tmps.getD 0 undef = .pointer (some ⟨c, b, none⟩)
  size : 54 ≤ a.tmps.size
  defers : DefOK W.heap.size (one .h (c, b, z)) w a.defers
  cell : Cell4 w c b z S s.1 s.2.1 s.2.2
  big : W.heap.size ≤ w.heap.size
  oth : ∀ j, j < W.heap.size → j ≠ c → w.heap[j]? = W.heap[j]?
  tp : w.tape = W.tape ∧ w.os = W.os ∧ w.output = W.output
theorem bst_step {W : World} {S : ByteArray} {s s' : Nat × Nat × Nat} (hc : c < W.heap.size) (I : BSt W c b z S s a w) {D : Dec} {p : Ex → Bool} {i' l' q' : SI} (hrun : seen (blRun D) p i' l' q' = true) (hD : DecOK (val4 S s) D)
    (h1 : i'.den (val4 S s) = s'.1) (h2 : l'.den (val4 S s) = s'.2.1) (h3 : q'.den (val4 S s) = s'.2.2) (fr : Frame) (hfr : fr.roundOf = none) (k₀ : List Item) (cs : List Frame) :
    ∃ e a' w', p e = true ∧ BSt W c b z S s' a' w' ∧ Arr Tryz.prog (lone (fr.atR a (.code blC :: k₀)) cs w) fr k₀ cs e a' w' := by
  obtain ⟨e, a', w', hp, g1, g2, g3, g4, g5, g6, g7, g8⟩ := bl_iter (ρ := val4 S s) hrun hD (Nat.lt_of_lt_of_le hc I.big) I.cell I.ptr (by rw [Tryz.ntmps42]; exact I.size) I.defers fr hfr k₀ cs
  rw [h1, h2, h3] at g4
  exact ⟨e, a', w', hp, ⟨g1, by rw [g2]; exact I.size, g3, g4, Nat.le_trans I.big g5, fun j hj hjc => (g6 j (Nat.lt_of_lt_of_le hj I.big) hjc).trans (I.oth j hj hjc),
    ⟨g7.1.trans I.tp.1, g7.2.1.trans I.tp.2.1, g7.2.2.trans I.tp.2.2⟩⟩, g8⟩
theorem isNormal_inv {e : Ex} (h : isNormal e = true) : e = .normal := by cases e <;> first | rfl | cases h
theorem isExit0_inv {e : Ex} (h : isExit0 e = true) : e = .exit 0 := by
  cases e with
  | exit i => cases i with
    | zero => rfl
    | succ i => cases h
  | _ => cases h
theorem bst_go {W : World} {S : ByteArray} (hc : c < W.heap.size) (hsz : S.size ≤ 1099511627776) {k : Ck} {s : Nat × Nat × Nat} {rest : List UInt8} (hd : S.data.toList.drop s.1 = k.bs ++ rest) (hrem : k = .rem → ∃ r, rest = 10 :: r)
    (hbj : s.1 ≤ S.size ∧ s.2.1 ≤ S.size + 2 ∧ s.2.2 ≤ S.size + 2) (I : BSt W c b z S s a w) (fr : Frame) (hfr : fr.roundOf = none) (k₀ : List Item) (cs : List Frame) :
    ∃ a' w', BSt W c b z S (k.go s) a' w' ∧ Arr Tryz.prog (lone (fr.atR a (.code blC :: k₀)) cs w) fr k₀ cs .normal a' w' := by
  obtain ⟨i, l, q⟩ := s
  simp only at hbj hd
  cases k with
  | nl =>
    obtain ⟨e, a', w', hp, hI, harr⟩ := bst_step (s' := (i + 1, l + 1, 1)) hc I run_nl (dec_one (ρ := val4 S (i, l, q)) (x := 10) (n := i) (rest := rest) (show S.data.toList.drop i = 10 :: rest by simpa [Ck.bs] using hd) rfl hsz rfl)
      (by show IntKind.i64.wrap ((i : Int) + 1) = _; rw [wrap_small64 (by omega) (by omega)]; simp) (by show IntKind.i64.wrap ((l : Int) + 1) = _; rw [wrap_small64 (by omega) (by omega)]; simp) rfl fr hfr k₀ cs
    rw [isNormal_inv hp] at harr
    exact ⟨a', w', hI, harr⟩
  | sp =>
    obtain ⟨e, a', w', hp, hI, harr⟩ := bst_step (s' := (i + 1, l, q + 1)) hc I run_sp (dec_one (ρ := val4 S (i, l, q)) (x := 32) (n := i) (rest := rest) (show S.data.toList.drop i = 32 :: rest by simpa [Ck.bs] using hd) rfl hsz rfl)
      (by show IntKind.i64.wrap ((i : Int) + 1) = _; rw [wrap_small64 (by omega) (by omega)]; simp) rfl (by show IntKind.i64.wrap ((q : Int) + 1) = _; rw [wrap_small64 (by omega) (by omega)]; simp) fr hfr k₀ cs
    rw [isNormal_inv hp] at harr
    exact ⟨a', w', hI, harr⟩
  | rem =>
    obtain ⟨r, rfl⟩ := hrem rfl
    obtain ⟨e, a', w', hp, hI, harr⟩ := bst_step (s' := (i + 10, l, q + 10)) hc I run_rem (dec_rem (ρ := val4 S (i, l, q)) (n := i) (rest := r) (show S.data.toList.drop i = [35, 32, 110, 111, 100, 101, 32, 116, 101, 108, 10] ++ r by simpa [Ck.bs] using hd) rfl hsz)
      (by show IntKind.i64.wrap ((i : Int) + 10) = _; rw [wrap_small64 (by omega) (by omega)]; simp) rfl (by show IntKind.i64.wrap ((q : Int) + 10) = _; rw [wrap_small64 (by omega) (by omega)]; simp) fr hfr k₀ cs
    rw [isNormal_inv hp] at harr
    exact ⟨a', w', hI, harr⟩
/-- **blanks, over what lies ahead of a text** -/
theorem blanks_ok {W : World} {S : ByteArray} {ck : List Ck} {rest : List UInt8} (hS : S.data.toList = ck.flatMap Ck.bs ++ 110 :: rest) (hsz : S.size ≤ 1099511627776) (hrem : ∀ j : Nat, ck[j]? = some .rem → ck[j + 1]? = some .nl)
    (hc : c < W.heap.size) (hcell : Cell4 W c b z S 0 1 1) (cs : List Frame) :
    ∃ w', Leaves Tryz.prog 42 #[.pointer (some ⟨c, b, none⟩)] W cs (.tuple #[]) w' ∧ Cell4 w' c b z S (posOf ck).1 (posOf ck).2.1 (posOf ck).2.2 ∧ W.heap.size ≤ w'.heap.size ∧
      (∀ j, j < W.heap.size → j ≠ c → w'.heap[j]? = W.heap[j]?) ∧ (w'.tape = W.tape ∧ w'.os = W.os ∧ w'.output = W.output) := by
  let fr : Frame := { (default : Frame) with fn := 42, kind := .normal }
  let a0 : Act := { tmps := #[.pointer (some ⟨c, b, none⟩)] ++ Array.replicate (Tryz.f42.ntmps - 1) undef, defers := [] }
  have hnt : 54 ≤ a0.tmps.size := by show 54 ≤ (#[_] ++ Array.replicate (Tryz.f42.ntmps - 1) _).size; rw [Tryz.ntmps42]; simp
  have hlen : S.data.toList.length = S.size := by simp
  have hb : ∀ j, (posOf (ck.take j)).1 ≤ S.size ∧ (posOf (ck.take j)).2.1 ≤ S.size + 2 ∧ (posOf (ck.take j)).2.2 ≤ S.size + 2 := by
    intro j
    have h1 := foldl_len (ck.take j) (0, 1, 1)
    have h2 := foldl_le (ck.take j) (0, 1, 1)
    have h3 : ((ck.take j).flatMap Ck.bs).length ≤ (ck.flatMap Ck.bs).length := by
      conv => rhs; rw [← List.take_append_drop j ck]
      rw [List.flatMap_append, List.length_append]; omega
    have h4 : (ck.flatMap Ck.bs).length ≤ S.size := by rw [← hlen, hS, List.length_append]; omega
    simp only [posOf]
    simp only at h1 h2
    omega
  have hdrop : ∀ j, S.data.toList.drop (posOf (ck.take j)).1 = (ck.drop j).flatMap Ck.bs ++ 110 :: rest := by
    intro j
    have h1 := foldl_len (ck.take j) (0, 1, 1)
    simp only [Nat.zero_add] at h1
    show S.data.toList.drop (posOf (ck.take j)).1 = _
    rw [show (posOf (ck.take j)).1 = ((ck.take j).flatMap Ck.bs).length from h1, hS]
    conv => lhs; rw [← List.take_append_drop j ck, List.flatMap_append, List.append_assoc, List.take_append_drop j ck]
    rw [List.drop_left']; rfl
  have hI0 : BSt W c b z S (posOf (ck.take 0)) a0 W := by
    exact ⟨by show (#[Value.pointer (some ⟨c, b, none⟩)] ++ Array.replicate (Tryz.f42.ntmps - 1) undef).getD 0 undef = _; rw [Array.getD_eq_getD_getElem?, Array.getElem?_append_left (by simp)]; rfl, hnt, DefOK.nil (Nat.le_refl _), hcell, Nat.le_refl _, fun _ _ _ => rfl, ⟨rfl, rfl, rfl⟩⟩
  obtain ⟨e, a', w', hne, ⟨he, hI⟩, harr⟩ := loop_arr (P := Tryz.prog) (c := blC) (b := fr) (k := [.inBlock 0, .inScope (.seq (.label 0) (.block 0 (.loop blC)))]) (cs := cs) (fun j a w => BSt W c b z S (posOf (ck.take j)) a w) (fun e a w => e = .exit 0 ∧ BSt W c b z S (posOf ck) a w) ck.length
    (fun j a w hj I => by
      have hk : ck[j]? = some ck[j] := List.getElem?_eq_getElem hj
      have htake : ck.take (j + 1) = ck.take j ++ [ck[j]] := by rw [List.take_add_one, hk]; rfl
      have hdr : ck.drop j = ck[j] :: ck.drop (j + 1) := List.drop_eq_getElem_cons hj
      have hd := hdrop j
      have hpos : posOf (ck.take (j + 1)) = ck[j].go (posOf (ck.take j)) := by rw [htake, posOf_snoc]
      rw [hdr, List.flatMap_cons, List.append_assoc] at hd
      have := bst_go hc hsz hd (fun hkr => by
        have hnx := hrem j (by rw [hk, hkr])
        obtain ⟨hj1, hn1⟩ := List.getElem?_eq_some_iff.1 hnx
        have hdr1 : ck.drop (j + 1) = ck[j + 1] :: ck.drop (j + 1 + 1) := List.drop_eq_getElem_cons hj1
        rw [hdr1, hn1, List.flatMap_cons]
        exact ⟨_, rfl⟩) (hb j) I fr rfl (.inLoop blC :: [.inBlock 0, .inScope (.seq (.label 0) (.block 0 (.loop blC)))]) cs
      rw [← hpos] at this
      exact this)
    (fun a w I => by
      have hd := hdrop ck.length
      rw [List.take_length] at I hd
      rw [List.drop_length] at hd
      obtain ⟨e, a', w', hp, hI, harr⟩ := bst_step (s' := posOf ck) hc I run_n (dec_one (ρ := val4 S (posOf ck)) (x := 110) (n := (posOf ck).1) (rest := rest) (show S.data.toList.drop (posOf ck).1 = 110 :: rest by simpa using hd) rfl hsz rfl) rfl rfl rfl fr rfl (.inLoop blC :: [.inBlock 0, .inScope (.seq (.label 0) (.block 0 (.loop blC)))]) cs
      have := isExit0_inv hp
      subst this
      exact ⟨.exit 0, a', w', by simp, ⟨rfl, hI⟩, harr⟩) hI0
  subst he
  have hall : Arr Tryz.prog (lone (fr.atR a0 [.code (.scope (.seq (.label 0) (.block 0 (.loop blC))))]) cs W) fr [] cs .normal a' w' := by
    obtain ⟨todo, hs, hx⟩ := harr
    have hx' : exitTo 0 todo = some [.inScope (.seq (.label 0) (.block 0 (.loop blC)))] := hx.trans rfl
    exact (Steps.head stepR_scope (.head stepR_seq (.head stepR_label (.head stepR_block hs)))).trans (.head (stepR_exit hx') (.one stepR_inScope))
  obtain ⟨w₂, h1, h2, h3, h4⟩ := leaves_of (P := Tryz.prog) (f := 42) (w := W) (args := #[.pointer (some ⟨c, b, none⟩)]) Tryz.func42 bl_body (.inl rfl) hI.defers (v := .tuple #[]) hall (fun w₂ _ _ => by
    have := run_results (P := Tryz.prog) (w := w₂) (fn := Tryz.f42) (tmps := a'.tmps) (g := fun _ => undef) (by rw [Tryz.results42]; intro x hx; simp at hx)
    rw [Tryz.results42] at this
    exact this)
  obtain ⟨cells, t, f, g1, g2⟩ := hI.cell
  refine ⟨w₂, h1, ⟨cells, t, f, (h3 c hc).trans g1, g2⟩, by rw [h2]; exact hI.big, fun j hj hjc => (h3 j hj).trans (hI.oth j hj hjc), h4.1.trans hI.tp.1, h4.2.1.trans hI.tp.2.1, h4.2.2.trans hI.tp.2.2⟩
end
end SX
namespace SX
open Go Go.Proofs
set_option linter.unusedVariables false
/-! ### pieces of a function's code, one behind the other -/
noncomputable def evs (cx : Cx) : List XCode → TV → H → RC
  | [], env, h => .ok .normal env h
  | c :: l, env, h => match evC c cx env h with
    | .ok .normal env' h' => evs cx l env' h'
    | .ok _ _ _ => .fail
    | r => r
def envL : List (Nat × AV) → TV
  | [] => .lf
  | x :: l => TV.set x.2 (Ps.ofNat x.1) (envL l)
theorem envL_R {ρ : Val} {m : MM} {live : Nat → Bool} {tmps : Array Value} : ∀ {l : List (Nat × AV)}, (∀ x ∈ l, V ρ m x.2 (tmps.getD x.1 undef)) → EnvR ρ m live (envL l) tmps
  | [], _ => fun t _ => by
    have : TV.get (Ps.ofNat t) (envL []) = .bot := TV.get_lf _
    rw [this]; trivial
  | x :: l, h => fun t ht => by
    by_cases he : t = x.1
    · subst he
      have : TV.get (Ps.ofNat x.1) (envL (x :: l)) = x.2 := TV.get_set_same ..
      rw [this]; exact h x List.mem_cons_self
    · have : TV.get (Ps.ofNat t) (envL (x :: l)) = TV.get (Ps.ofNat t) (envL l) := TV.get_set_other _ _ _ _ fun e => he (Ps.ofNat_inj e)
      rw [this]; exact envL_R (fun y hy => h y (List.mem_cons_of_mem _ hy)) t ht
def outAll (env : TV) : List (Nat × AV) → Bool
  | [] => true
  | o :: l => avEq (TV.get (Ps.ofNat o.1) env) o.2 && outAll env l
theorem outAll_inv {env : TV} : ∀ {l : List (Nat × AV)}, outAll env l = true → ∀ o ∈ l, TV.get (Ps.ofNat o.1) env = o.2
  | [], _, o, ho => by cases ho
  | x :: l, h, o, ho => by
    simp only [outAll, Bool.and_eq_true] at h
    rcases List.mem_cons.1 ho with rfl | ho
    · exact avEq_eq _ _ h.1
    · exact outAll_inv h.2 o ho
/-- how a piece ends -/
def seenS (r : RC) (pe : Ex → Bool) (outs : List (Nat × AV)) (ph : TV → H → Bool) : Bool := match r with
  | .ok x env h => pe x && outAll env outs && ph env h
  | _ => false
theorem seenS_inv {r : RC} {pe : Ex → Bool} {outs : List (Nat × AV)} {ph : TV → H → Bool} (h : seenS r pe outs ph = true) : ∃ x env hh, r = .ok x env hh ∧ pe x = true ∧ (∀ o ∈ outs, TV.get (Ps.ofNat o.1) env = o.2) ∧ ph env hh = true := by
  cases r with
  | ok x env hh =>
    simp only [seenS, Bool.and_eq_true] at h
    exact ⟨x, env, hh, rfl, h.1.1, outAll_inv h.1.2, h.2⟩
  | _ => cases h
def anyH (_ : TV) (_ : H) : Bool := true
section
variable {P : Program} {ρ : Val} {m m' : MM} {h h' : H} {w w' : World} {L : Nat} {live : Nat → Bool} {nt : Nat} {cx : Cx}
theorem segs_ok (hmx : P.follows .mixedOrders = true) (hcx : CxOK P ρ cx) (hl : ∀ t, live t = true → t < nt) (X : Code) : ∀ (l : List Code) {env : TV} {h : H} {env' : TV} {h' : H}, evs cx (l.map (trCode P live nt false)) env h = .ok .normal env' h' →
    ∀ {L B : Nat} {m : MM} {w : World} {a : Act}, Rel P ρ m h w → L ≤ h.next.toNat → EnvR ρ m live env a.tmps → nt ≤ a.tmps.size → DefOK B m w a.defers → ∀ (b : Frame) (k : List Item) (cs : List Frame), b.roundOf = none →
    ∃ m' a' w', Step P ρ L m h w m' h' w' ∧ EnvR ρ m' live env' a'.tmps ∧ a'.tmps.size = a.tmps.size ∧ DefOK B m' w' a'.defers ∧
      Steps P (lone (b.atR a (.code (l.foldr .seq X) :: k)) cs w) (lone (b.atR a' (.code X :: k)) cs w')
  | [], env, h, env', h', e, L, B, m, w, a, r, hL, hv, hn, hd, b, k, cs, hb => by
    have e' : RC.ok .normal env h = .ok .normal env' h' := e
    cases e'
    exact ⟨m, a, w, Step.refl r, hv, rfl, hd, Steps.refl P _⟩
  | c :: l, env, h, env', h', e, L, B, m, w, a, r, hL, hv, hn, hd, b, k, cs, hb => by
    have e' : (match evC (trCode P live nt false c) cx env h with
      | .ok .normal env' h' => evs cx (l.map (trCode P live nt false)) env' h'
      | .ok _ _ _ => .fail
      | r => r) = .ok .normal env' h' := e
    split at e'
    · rename_i env₁ h₁ he₁
      obtain ⟨m₁, a₁, w₁, s₁, hv₁, hz₁, hd₁, harr⟩ := (code_ok (P := P) hmx hcx hl c false).run he₁ r hL hv hn hd b (.code (l.foldr .seq X) :: k) cs (fun _ => hb)
      obtain ⟨m₂, a₂, w₂, s₂, hv₂, hz₂, hd₂, hst⟩ := segs_ok hmx hcx hl X l e' s₁.rel (Nat.le_trans hL s₁.next) hv₁ (by rw [hz₁]; exact hn) hd₁ b k cs hb
      exact ⟨m₂, a₂, w₂, s₁.trans s₂, hv₂, hz₂.trans hz₁, hd₂, .head stepR_seq (Steps.trans harr hst)⟩
    · cases e'
    · rename_i hne
      exact (hne _ _ _ e').elim
end
end SX
namespace SX
open Go Go.Proofs
set_option linter.unusedVariables false
set_option maxRecDepth 100000
/-! ### TopFaults, in pieces -/
def txts : Nat → Nat × Nat × Nat × Nat × Nat
  | 0 => (50, 1093384143356524028145870822637025368637261638997795047839141002229259712964127494178307768081043538238568954624643198830, 5, 417152704611, 24)
  | 1 => (50, 1093384143356542376134796607222082334294341660671615250806939745773727257022072642519708653739782317746443812668048699246, 2, 15203, 24)
  | 2 => (57, 78786630729494873737041482183176637284541952629356438371759293983705104820905397231871434096691207915778279179316497510390577088937881454, 4, 1702195828, 28)
  | 3 => (54, 4696049137679355072827253409938649138278826472739065200796379406236843592325622914866519421148779762491473880530592039400257122158, 5, 417152704610, 28)
  | 4 => (53, 18343941944067368629393318463563189362239595246903541949697953761434196188350100447748100261090886177348391951163011213558050670, 2, 14948, 26)
  | 5 => (57, 78786630729460278797518715055260831324812215938379861466277313125411472534340681637675443347540078369920628681362213409497305569812574062, 5, 210994274402, 23)
  | 6 => (54, 4696049137681246358302605297513478978374953219480025214481979748567323819314324863046489647221516293730215651998549014475381698414, 5, 421447671906, 32)
  | 7 => (54, 4696049137681246393366474494249304514769548735514963950069604811407932912717108372997376059863681309792493618922119917780617949038, 7, 28554798550556770, 31)
  | 8 => (66, 372059344255186936635317284980714030745126685499663733576316802274583988670072596672200529335332101377290199162742591352993913094380997868360297736737667706734, 4, 1852139639, 30)
  | 9 => (104, 12126372313261858682553043688725631450816135744898282547001896206343628778238180604202150595059234285351617764926269276740800587363227409341055803908772634625420908374850682529687501858196995441036004968354065349295662814074925277448178690174203752302, 4, 979445862, 29)
  | 10 => (47, 65170773467810394057385247150062885744999602077966265576304578752800068635425421424907442680675849762271993818990, 0, 0, 27)
  | 11 => (49, 4271031810332708483863630149288727995690116357714691007487784623152901399896332348359490025243820517134533885994233710, 3, 7103860, 21)
  | 12 => (54, 4696049137679355057796580880186116479786150653287308225592011093223596419798960697060381660415285724323800290868072339995873275758, 1, 36, 20)
  | 13 => (104, 12126372313261858669782694472455732519231886143427356438512731244592954816545580955205093020357578445790290493395544019065104886904083234793175667076816848481835791646739067955162132770592830589843613191851566068412788669182284762086412462205155176302, 7, 11647264856549478, 25)
  | _ => (0, 0, 0, 0, 0)
noncomputable def fB : Code := Tryz.f3.body.getD .skip
noncomputable def fc0 : Code := pLeft fB
noncomputable def fc1 : Code := pLeft (pRight fB)
noncomputable def fc2 : Code := pLeft (pRight (pRight fB))
noncomputable def fc3 : Code := pLeft (pRight (pRight (pRight fB)))
noncomputable def fX4 : Code := pRight (pRight (pRight (pRight fB)))
noncomputable def fr4 : Code := pLeft (pLeft fX4)
noncomputable def fL0 : Code := pBody (pBody (pRight (pLeft fX4)))
noncomputable def fX5 : Code := pRight fX4
noncomputable def fr10 : Code := pLeft (pLeft fX5)
noncomputable def fL2 : Code := pBody (pBody (pRight (pLeft fX5)))
noncomputable def fR : Code := pRight fX5
noncomputable def fAll : Code := .seq fc0 (.seq fc1 (.seq fc2 (.seq fc3 (.seq (.seq fr4 (.block 0 (.loop fL0))) (.seq (.seq fr10 (.block 2 (.loop fL2))) fR)))))
theorem f_body : Tryz.f3.body = some fAll := by kernel_rfl
noncomputable def fLv : Nat → Bool := liveOf Tryz.f3 fAll
theorem f_lt : ∀ t, fLv t = true → t < Tryz.f3.ntmps := (trFunc_live f_body t3).1
noncomputable abbrev fTr (c : Code) : XCode := trCode Tryz.prog fLv Tryz.f3.ntmps false c
theorem f_tr : fTr fAll = x3.body := (trFunc_live f_body t3).2.2.2.2.symm
noncomputable def y0 : XCode := xLeft x3.body
noncomputable def y1 : XCode := xLeft (xRight x3.body)
noncomputable def y2 : XCode := xLeft (xRight (xRight x3.body))
noncomputable def y3 : XCode := xLeft (xRight (xRight (xRight x3.body)))
noncomputable def yX4 : XCode := xRight (xRight (xRight (xRight x3.body)))
noncomputable def y4 : XCode := xLeft (xLeft yX4)
noncomputable def yL0 : XCode := xBody (xBody (xRight (xLeft yX4)))
noncomputable def yX5 : XCode := xRight yX4
noncomputable def y10 : XCode := xLeft (xLeft yX5)
noncomputable def yL2 : XCode := xBody (xBody (xRight (xLeft yX5)))
noncomputable def yR : XCode := xRight yX5
theorem tr_c0 : fTr fc0 = y0 := congrArg (fun x => xLeft x) f_tr
theorem tr_c1 : fTr fc1 = y1 := congrArg (fun x => xLeft (xRight x)) f_tr
theorem tr_c2 : fTr fc2 = y2 := congrArg (fun x => xLeft (xRight (xRight x))) f_tr
theorem tr_c3 : fTr fc3 = y3 := congrArg (fun x => xLeft (xRight (xRight (xRight x)))) f_tr
theorem tr_r4 : fTr fr4 = y4 := congrArg (fun x => xLeft (xLeft (xRight (xRight (xRight (xRight x)))))) f_tr
theorem tr_L0 : fTr fL0 = yL0 := congrArg (fun x => xBody (xBody (xRight (xLeft (xRight (xRight (xRight (xRight x)))))))) f_tr
theorem tr_r10 : fTr fr10 = y10 := congrArg (fun x => xLeft (xLeft (xRight (xRight (xRight (xRight (xRight x))))))) f_tr
theorem tr_L2 : fTr fL2 = yL2 := congrArg (fun x => xBody (xBody (xRight (xLeft (xRight (xRight (xRight (xRight (xRight x))))))))) f_tr
theorem tr_R : fTr fR = yR := congrArg (fun x => xRight (xRight (xRight (xRight (xRight (xRight x)))))) f_tr
/-! ### the first piece: which text it is -/
def dWhich (j : Nat) : Dec := ⟨[(.eq, .bin .rem .i64 (.conv .i64 (.var 0)) (.nat 14), .nat j, true)], []⟩
def cellsX (j : Nat) : List AV := [.str (txts j).1 (txts j).2.1, .str (txts j).2.2.1 (txts j).2.2.2.1, .int .i64 (.nat (txts j).2.2.2.2)]
def envA : TV := envL [(0, .int .u8 (.var 0)), (1, .int .u8 (.var 1)), (2, .int .u8 (.var 2)), (3, .sym 3)]
def nSI (i : Nat) : SI := .conv .i64 (.bin .rem .u8 (.var i) (.nat 21))
def isX (cells : List AV) (env : TV) (h : H) : Bool := match TV.get (Ps.ofNat 10) env with
  | .ptr p 0 => (match TB.get p h.t with | .row false cs => avEqs cs cells | _ => false)
  | _ => false
noncomputable def runA (j : Nat) : RC := evs (cxN 100 (K0 (dWhich j))) [y0, y1, y2, y3, y4] envA ⟨.lf, .h⟩
def outsA : List (Nat × AV) := [(3, .sym 3), (11, .int .i64 (nSI 1)), (12, .int .i64 (nSI 2)), (13, .str 0 0), (14, .int .i64 (.nat 0))]
noncomputable def okA (j : Nat) : Bool := seenS (runA j) isNormal outsA (isX (cellsX j))
theorem okA0 : okA 0 = true := by kernel_rfl
theorem okA1 : okA 1 = true := by kernel_rfl
theorem okA2 : okA 2 = true := by kernel_rfl
theorem okA3 : okA 3 = true := by kernel_rfl
theorem okA4 : okA 4 = true := by kernel_rfl
theorem okA5 : okA 5 = true := by kernel_rfl
theorem okA6 : okA 6 = true := by kernel_rfl
theorem okA7 : okA 7 = true := by kernel_rfl
theorem okA8 : okA 8 = true := by kernel_rfl
theorem okA9 : okA 9 = true := by kernel_rfl
theorem okA10 : okA 10 = true := by kernel_rfl
theorem okA11 : okA 11 = true := by kernel_rfl
theorem okA12 : okA 12 = true := by kernel_rfl
theorem okA13 : okA 13 = true := by kernel_rfl
theorem okA_all : ∀ j, j < 14 → okA j = true
  | 0, _ => okA0
  | 1, _ => okA1
  | 2, _ => okA2
  | 3, _ => okA3
  | 4, _ => okA4
  | 5, _ => okA5
  | 6, _ => okA6
  | 7, _ => okA7
  | 8, _ => okA8
  | 9, _ => okA9
  | 10, _ => okA10
  | 11, _ => okA11
  | 12, _ => okA12
  | 13, _ => okA13
  | j + 14, h => absurd h (by omega)
end SX
namespace SX
open Go Go.Proofs
set_option linter.unusedVariables false
set_option maxRecDepth 100000
/-! ### what goes ahead of a text -/
def ckL (rem : Bool) (n : Nat) : List Ck := match rem, n with
  | true, n + 1 => .rem :: List.replicate (n + 1) .nl
  | _, n => List.replicate n .nl
def ckOf (rem : Bool) (n k : Nat) : List Ck := ckL rem n ++ List.replicate k .sp
def bytesOf (ck : List Ck) : ByteArray := ⟨(ck.flatMap Ck.bs).toArray⟩
theorem ba_ext {a b : ByteArray} (h : a.data.toList = b.data.toList) : a = b := by
  cases a; cases b; simp only at h; rw [Array.toList_inj] at h; rw [h]
theorem ba_app (a b : ByteArray) : (a ++ b).data.toList = a.data.toList ++ b.data.toList := by simp
theorem bytes_snoc (ck ck' : List Ck) (e : ByteArray) (h : e.data.toList = ck'.flatMap Ck.bs) : bytesOf ck ++ e = bytesOf (ck ++ ck') := by
  apply ba_ext; rw [ba_app, h]; simp [bytesOf]
theorem ckL_snoc (rem : Bool) (n : Nat) : ckL rem (n + 1) = ckL rem n ++ (if rem && n == 0 then [.rem, .nl] else [.nl]) := by
  cases rem with
  | false => simp [ckL, List.replicate_succ']
  | true => cases n with
    | zero => rfl
    | succ n => simp [ckL, List.replicate_succ' (n := n + 1)]
theorem ckOf_sp (rem : Bool) (n k : Nat) : ckOf rem n (k + 1) = ckOf rem n k ++ [.sp] := by
  simp [ckOf, List.replicate_succ']
theorem ckOf_zero (rem : Bool) (n : Nat) : ckOf rem n 0 = ckL rem n := by simp [ckOf]
theorem bs_nl : ∀ n, (List.replicate n Ck.nl).flatMap Ck.bs = List.replicate n 10
  | 0 => rfl
  | n + 1 => by rw [List.replicate_succ, List.flatMap_cons, bs_nl n]; rfl
theorem bs_sp : ∀ n, (List.replicate n Ck.sp).flatMap Ck.bs = List.replicate n 32
  | 0 => rfl
  | n + 1 => by rw [List.replicate_succ, List.flatMap_cons, bs_sp n]; rfl
theorem ck_len (rem : Bool) (n k : Nat) : ((ckOf rem n k).flatMap Ck.bs).length ≤ 10 + n + k := by
  rw [ckOf, List.flatMap_append, List.length_append, bs_sp, List.length_replicate]
  have : ((ckL rem n).flatMap Ck.bs).length ≤ 10 + n := by
    unfold ckL
    split
    · rename_i n; rw [List.flatMap_cons, List.length_append, bs_nl, List.length_replicate]; simp [Ck.bs]
    · rw [bs_nl, List.length_replicate]; omega
  omega
theorem bytes_size (ck : List Ck) : (bytesOf ck).size = (ck.flatMap Ck.bs).length := by simp [bytesOf, ByteArray.size]
theorem fold_nl : ∀ n (s : Nat × Nat × Nat), 0 < n → (List.replicate n Ck.nl).foldl (fun s k => k.go s) s = (s.1 + n, s.2.1 + n, 1)
  | 0, s, h => absurd h (by omega)
  | 1, (i, l, q), _ => rfl
  | n + 2, (i, l, q), _ => by
    rw [List.replicate_succ, List.foldl_cons, fold_nl (n + 1) _ (by omega)]
    show (i + 1 + (n + 1), l + 1 + (n + 1), 1) = (i + (n + 2), l + (n + 2), 1)
    rw [show i + 1 + (n + 1) = i + (n + 2) by omega, show l + 1 + (n + 1) = l + (n + 2) by omega]
theorem fold_sp : ∀ n (s : Nat × Nat × Nat), (List.replicate n Ck.sp).foldl (fun s k => k.go s) s = (s.1 + n, s.2.1, s.2.2 + n)
  | 0, (i, l, q) => rfl
  | n + 1, (i, l, q) => by
    rw [List.replicate_succ, List.foldl_cons, fold_sp n]
    show (i + 1 + n, l, q + 1 + n) = (i + (n + 1), l, q + (n + 1))
    rw [show i + 1 + n = i + (n + 1) by omega, show q + 1 + n = q + (n + 1) by omega]
theorem pos_ck (rem : Bool) (n k : Nat) : (posOf (ckOf rem n k)).2.1 = n + 1 ∧ (posOf (ckOf rem n k)).2.2 = k + 1 := by
  unfold posOf ckOf
  rw [List.foldl_append, fold_sp]
  have : ((ckL rem n).foldl (fun s k => k.go s) (0, 1, 1)).2 = (n + 1, 1) := by
    unfold ckL
    split
    · rename_i n; rw [List.foldl_cons, fold_nl _ _ (by omega)]; show (1 + (n + 1), 1) = _; rw [Nat.add_comm]
    · rcases Nat.eq_zero_or_pos n with h0 | h0
      · subst h0; rfl
      · rw [fold_nl _ _ h0]; show (1 + n, 1) = _; rw [Nat.add_comm]
  rw [this]; exact ⟨rfl, by show 1 + k = k + 1; omega⟩
theorem ck_rem (rem : Bool) (n k : Nat) : ∀ j : Nat, (ckOf rem n k)[j]? = some .rem → (ckOf rem n k)[j + 1]? = some .nl := by
  have key : ∀ n k j : Nat, ¬ ((List.replicate n Ck.nl ++ List.replicate k Ck.sp)[j]? = some Ck.rem) := by
    intro n k j h
    have := List.mem_of_getElem? h
    rcases List.mem_append.1 this with h | h
    · exact absurd (List.eq_of_mem_replicate h) (by simp)
    · exact absurd (List.eq_of_mem_replicate h) (by simp)
  intro j h
  unfold ckOf ckL at h ⊢
  split at h
  · rename_i n
    cases j with
    | zero => simp [List.replicate_succ]
    | succ j => rw [List.cons_append, List.getElem?_cons_succ] at h; exact absurd h (key _ _ _)
  · exact absurd h (key _ _ _)
/-! ### the two loops -/
def le40 (e : SS) : Rl × SI × SI × Bool := (.le, .len e, .nat 1099511627776, true)
def litNl : SS := .lit 1 10
def litSp : SS := .lit 1 32
def litRem : SS := .lit 10 511887069100956042797091
def insL (t3 : AV) (ti : Nat) : List (Nat × AV) := [(3, t3), (10, .sym 10), (11, .int .i64 (.var 11)), (12, .int .i64 (.var 12)), (13, .sx (.var 0)), (ti, .int .i64 (.var 14))]
def outsL (t3 : AV) (ti : Nat) (e : SS) (i : SI) : List (Nat × AV) := [(3, t3), (10, .sym 10), (11, .int .i64 (.var 11)), (12, .int .i64 (.var 12)), (13, .sx e), (ti, .int .i64 i)]
noncomputable def fRun (x : XCode) (D : Dec) (ins : List (Nat × AV)) : RC := evC x (cxN 10 (K0 D)) (envL ins) ⟨.lf, .h⟩
def eNl : SS := .cat (.var 0) litNl
def eRem : SS := .cat (.cat (.var 0) litRem) litNl
def eSp : SS := .cat (.var 0) litSp
def dL1 : Dec := ⟨[(.lt, .var 14, .var 11, true), le40 eNl], []⟩
def dL2 : Dec := ⟨[(.lt, .var 14, .var 11, true), (.eq, .var 14, .nat 0, false), le40 eNl], []⟩
def dL3 : Dec := ⟨[(.lt, .var 14, .var 11, true), (.eq, .var 14, .nat 0, true), le40 (.cat (.var 0) litRem), le40 eRem], []⟩
def dL4 : Dec := ⟨[(.lt, .var 14, .var 11, false)], []⟩
def dL5 : Dec := ⟨[(.lt, .var 14, .var 12, true), le40 eSp], []⟩
def dL6 : Dec := ⟨[(.lt, .var 14, .var 12, false)], []⟩
def isExit2 : Ex → Bool | .exit 2 => true | _ => false
theorem runL1 : seenS (fRun yL0 dL1 (insL (.bool .f) 14)) isNormal (outsL (.bool .f) 14 eNl (plus (.var 14) 1)) anyH = true := by kernel_rfl
theorem runL2 : seenS (fRun yL0 dL2 (insL (.bool .t) 14)) isNormal (outsL (.bool .t) 14 eNl (plus (.var 14) 1)) anyH = true := by kernel_rfl
theorem runL3 : seenS (fRun yL0 dL3 (insL (.bool .t) 14)) isNormal (outsL (.bool .t) 14 eRem (plus (.var 14) 1)) anyH = true := by kernel_rfl
theorem runL4 : seenS (fRun yL0 dL4 (insL (.sym 3) 14)) isExit0 (outsL (.sym 3) 14 (.var 0) (.var 14)) anyH = true := by kernel_rfl
theorem runL5 : seenS (fRun yL2 dL5 (insL (.sym 3) 15)) isNormal (outsL (.sym 3) 15 eSp (plus (.var 14) 1)) anyH = true := by kernel_rfl
theorem runL6 : seenS (fRun yL2 dL6 (insL (.sym 3) 15)) isExit2 (outsL (.sym 3) 15 (.var 0) (.var 14)) anyH = true := by kernel_rfl
theorem live3 : fLv 3 = true := by kernel_rfl
theorem live10 : fLv 10 = true := by kernel_rfl
theorem live11 : fLv 11 = true := by kernel_rfl
theorem live12 : fLv 12 = true := by kernel_rfl
theorem live13 : fLv 13 = true := by kernel_rfl
theorem live14 : fLv 14 = true := by kernel_rfl
theorem live15 : fLv 15 = true := by kernel_rfl
end SX
namespace SX
open Go Go.Proofs
set_option linter.unusedVariables false
set_option maxRecDepth 100000
theorem f3nt : Tryz.f3.ntmps = Tryz.f3.ntmps := rfl
/-- where a text of the table lies -/
structure XAt (W : World) (c b z : Nat) (j : Nat) (w : World) : Prop where
  blk : ∀ (ρ : Val) (m : MM), BlkR Tryz.prog ρ m w c b z (.row false (cellsX j))
  lt : c < w.heap.size
  new : W.heap.size ≤ c
/-- the frame's temporaries and the heap, between the pieces -/
structure FSt (W : World) (pv : Value) (rem : Bool) (n k : Nat) (S : ByteArray) (ti : Nat) (i : Nat) (w₀ : World) (a : Act) (w : World) : Prop where
  t3 : a.tmps.getD 3 undef = .bool rem
  t10 : a.tmps.getD 10 undef = pv
  t11 : a.tmps.getD 11 undef = .int .i64 n
  t12 : a.tmps.getD 12 undef = .int .i64 k
  t13 : a.tmps.getD 13 undef = .string S
  ti : a.tmps.getD ti undef = .int .i64 i
  size : Tryz.f3.ntmps ≤ a.tmps.size
  defers : DefOK W.heap.size (fun _ => none) w a.defers
  big : w₀.heap.size ≤ w.heap.size
  oth : ∀ j, j < w₀.heap.size → w.heap[j]? = w₀.heap[j]?
  tp : w.tape = w₀.tape ∧ w.os = w₀.os ∧ w.output = w₀.output
def valF (pv : Value) (rem : Bool) (n k : Nat) (S : ByteArray) (i : Nat) : Val := ⟨fun j => match j with | 11 => n | 12 => k | 14 => i | _ => 0, fun _ => S, fun j => match j with | 3 => .bool rem | 10 => pv | _ => undef⟩
section
variable {W w₀ w : World} {pv : Value} {rem : Bool} {n k : Nat} {S : ByteArray} {ti i : Nat} {a : Act}
theorem fst_step {tj : Nat} (hti : fLv tj = true) (hpv : pv.oneCell' = true) (I : FSt W pv rem n k S ti i w₀ a w) {c : Code} {y : XCode} (hy : fTr c = y) {t3 : AV} (ht3 : V (valF pv rem n k S i) (fun _ => none) t3 (.bool rem)) {D : Dec} {pe : Ex → Bool} {e : SS} {u : SI}
    (hrun : seenS (fRun y D (insL t3 ti)) pe (outsL t3 tj e u) anyH = true) (hD : DecOK (valF pv rem n k S i) D) {S' : ByteArray} {i' : Nat} (hS : e.den (valF pv rem n k S i) = S') (hi : u.den (valF pv rem n k S i) = i')
    (h3 : ∀ m v, V (valF pv rem n k S i) m t3 v → v = .bool rem) (fr : Frame) (hfr : fr.roundOf = none) (k₀ : List Item) (cs : List Frame) :
    ∃ x a' w', pe x = true ∧ FSt W pv rem n k S' tj i' w₀ a' w' ∧ Arr Tryz.prog (lone (fr.atR a (.code c :: k₀)) cs w) fr k₀ cs x a' w' := by
  obtain ⟨x, env', h', hev, hp, hout, _⟩ := seenS_inv hrun
  have hcode := code_ok mixed (cxN_ok mixed (K0_ok hD) 10) f_lt c false
  rw [show trCode Tryz.prog fLv Tryz.f3.ntmps false c = y from hy] at hcode
  have henv : EnvR (valF pv rem n k S i) (fun _ => none) fLv (envL (insL t3 ti)) a.tmps := envL_R (by
    intro x hx
    simp only [insL, List.mem_cons, List.not_mem_nil, or_false] at hx
    rcases hx with rfl | rfl | rfl | rfl | rfl | rfl
    · rw [I.t3]; exact ht3
    · rw [I.t10]; exact ⟨rfl, hpv⟩
    · rw [I.t11]; rfl
    · rw [I.t12]; rfl
    · rw [I.t13]; rfl
    · rw [I.ti]; rfl)
  obtain ⟨m', a', w', hst, henv', hsz, hd', harr⟩ := hcode.run hev (Rel.empty w) (Nat.zero_le _) henv I.size I.defers fr k₀ cs (fun _ => hfr)
  have hV : ∀ o ∈ outsL t3 tj e u, fLv o.1 = true → V (valF pv rem n k S i) m' o.2 (a'.tmps.getD o.1 undef) := fun o ho hl => hout o ho ▸ henv' o.1 hl
  have h := fun t v hm => hV (t, v) hm
  refine ⟨x, a', w', hp, ⟨?_, ?_, ?_, ?_, ?_, ?_, by rw [hsz]; exact I.size, hd'.sub hst.ext, Nat.le_trans I.big hst.size, fun j hj => ?_, ?_⟩, harr⟩
  · exact h3 m' _ (h 3 t3 (by simp [outsL]) live3)
  · exact (h 10 (.sym 10) (by simp [outsL]) live10).1
  · exact h 11 (.int .i64 (.var 11)) (by simp [outsL]) live11
  · exact h 12 (.int .i64 (.var 12)) (by simp [outsL]) live12
  · have := h 13 (.sx e) (by simp [outsL]) live13
    rw [show a'.tmps.getD 13 undef = .string (e.den _) from this, hS]
  · have := h tj (.int .i64 u) (by simp [outsL]) hti
    rw [show a'.tmps.getD tj undef = .int .i64 (u.den _) from this, hi]
  · exact (hst.framed j (Nat.lt_of_lt_of_le hj I.big) (fun p x hx => by cases hx)).trans (I.oth j hj)
  · exact ⟨hst.tape.1.trans I.tp.1, hst.tape.2.1.trans I.tp.2.1, hst.tape.2.2.trans I.tp.2.2⟩
theorem decOK_d {ρ : Val} {l : List (Rl × SI × SI × Bool)} (h : ∀ x ∈ l, x.1.test (x.2.1.den ρ) (x.2.2.1.den ρ) = x.2.2.2) : DecOK ρ ⟨l, []⟩ := ⟨fun r a b v hm => h (r, a, b, v) hm, fun e b l c z hm => by cases hm⟩
theorem plus_den {ρ : Val} {i j : Nat} (h : ρ.i i = j) (hj : j ≤ 1000) : (plus (.var i) 1).den ρ = ((j + 1 : Nat) : Int) := by
  show IntKind.i64.wrap (ρ.i i + (1 : Nat)) = _
  rw [h, wrap_small64 (by omega) (by omega)]; omega
/-- the lines -/
theorem fst_line (hpv : pv.oneCell' = true) (hi : i < n) (hn : n ≤ 20) (hk : k ≤ 20) (I : FSt W pv rem n k (bytesOf (ckL rem i)) 14 i w₀ a w) (fr : Frame) (hfr : fr.roundOf = none) (k₀ : List Item) (cs : List Frame) :
    ∃ a' w', FSt W pv rem n k (bytesOf (ckL rem (i + 1))) 14 (i + 1) w₀ a' w' ∧ Arr Tryz.prog (lone (fr.atR a (.code fL0 :: k₀)) cs w) fr k₀ cs .normal a' w' := by
  have hb : (bytesOf (ckL rem i)).size ≤ 100 := by rw [bytes_size, ← ckOf_zero]; have := ck_len rem i 0; omega
  have hu := plus_den (ρ := valF pv rem n k (bytesOf (ckL rem i)) i) (i := 14) (j := i) rfl (by omega)
  have hnl : (bytesOf (ckL rem i)) ++ strBytes 1 10 = bytesOf (ckL rem i ++ [.nl]) := bytes_snoc _ [.nl] _ (by rfl)
  have hrm : ((bytesOf (ckL rem i)) ++ strBytes 10 511887069100956042797091) ++ strBytes 1 10 = bytesOf (ckL rem i ++ [.rem, .nl]) := by
    rw [bytes_snoc _ [.rem] _ (by decide +kernel), bytes_snoc _ [.nl] _ (by rfl), List.append_assoc]; rfl
  have hs1 : (bytesOf (ckL rem i) ++ strBytes 1 10).size ≤ 1000 := by rw [ByteArray.size_append]; have : (strBytes 1 10).size = 1 := rfl; omega
  have hs2 : (bytesOf (ckL rem i) ++ strBytes 10 511887069100956042797091).size ≤ 1000 := by rw [ByteArray.size_append]; have : (strBytes 10 511887069100956042797091).size = 10 := by decide +kernel
                                                                                             omega
  have hs3 : ((bytesOf (ckL rem i) ++ strBytes 10 511887069100956042797091) ++ strBytes 1 10).size ≤ 2000 := by rw [ByteArray.size_append]; have : (strBytes 1 10).size = 1 := rfl; omega
  have hlt : decide ((i : Int) < (n : Int)) = true := decide_eq_true (by omega)
  cases rem with
  | false =>
    obtain ⟨x, a', w', hp, hI, harr⟩ := fst_step (S' := bytesOf (ckL false (i + 1))) (i' := i + 1) live14 hpv I tr_L0 (t3 := .bool .f) rfl runL1 (decOK_d (by
      intro x hx
      simp only [List.mem_cons, List.not_mem_nil, or_false] at hx
      rcases hx with rfl | rfl
      · exact hlt
      · exact decide_eq_true (show ((bytesOf (ckL false i) ++ strBytes 1 10).size : Int) ≤ 1099511627776 by omega))) (by rw [ckL_snoc]; exact hnl) hu (fun _ _ h => h) fr hfr k₀ cs
    rw [isNormal_inv hp] at harr
    exact ⟨a', w', hI, harr⟩
  | true =>
    by_cases h0 : i = 0
    · obtain ⟨x, a', w', hp, hI, harr⟩ := fst_step (S' := bytesOf (ckL true (i + 1))) (i' := i + 1) live14 hpv I tr_L0 (t3 := .bool .t) rfl runL3 (decOK_d (by
        intro x hx
        simp only [List.mem_cons, List.not_mem_nil, or_false, le40] at hx
        rcases hx with rfl | rfl | rfl | rfl
        · exact hlt
        · exact decide_eq_true (show ((i : Int) = ((0 : Nat) : Int)) by omega)
        · exact decide_eq_true (show ((bytesOf (ckL true i) ++ strBytes 10 511887069100956042797091).size : Int) ≤ 1099511627776 by omega)
        · exact decide_eq_true (show (((bytesOf (ckL true i) ++ strBytes 10 511887069100956042797091) ++ strBytes 1 10).size : Int) ≤ 1099511627776 by omega))) (by rw [ckL_snoc, if_pos (by simp [h0])]; exact hrm) hu (fun _ _ h => h) fr hfr k₀ cs
      rw [isNormal_inv hp] at harr
      exact ⟨a', w', hI, harr⟩
    · obtain ⟨x, a', w', hp, hI, harr⟩ := fst_step (S' := bytesOf (ckL true (i + 1))) (i' := i + 1) live14 hpv I tr_L0 (t3 := .bool .t) rfl runL2 (decOK_d (by
        intro x hx
        simp only [List.mem_cons, List.not_mem_nil, or_false] at hx
        rcases hx with rfl | rfl | rfl
        · exact hlt
        · exact decide_eq_false (show ¬ ((i : Int) = ((0 : Nat) : Int)) by omega)
        · exact decide_eq_true (show ((bytesOf (ckL true i) ++ strBytes 1 10).size : Int) ≤ 1099511627776 by omega)))
        (by rw [ckL_snoc, if_neg (by simp [h0])]; exact hnl) hu (fun _ _ h => h) fr hfr k₀ cs
      rw [isNormal_inv hp] at harr
      exact ⟨a', w', hI, harr⟩
theorem fst_lineEnd (hpv : pv.oneCell' = true) (I : FSt W pv rem n k S 14 n w₀ a w) (fr : Frame) (hfr : fr.roundOf = none) (k₀ : List Item) (cs : List Frame) :
    ∃ a' w', FSt W pv rem n k S 14 n w₀ a' w' ∧ Arr Tryz.prog (lone (fr.atR a (.code fL0 :: k₀)) cs w) fr k₀ cs (.exit 0) a' w' := by
  obtain ⟨x, a', w', hp, hI, harr⟩ := fst_step (S' := S) (i' := n) live14 hpv I tr_L0 (t3 := .sym 3) ⟨rfl, rfl⟩ runL4 (decOK_d (by
      intro x hx
      simp only [List.mem_cons, List.not_mem_nil, or_false] at hx
      rcases hx with rfl
      exact decide_eq_false (show ¬ ((n : Int) < (n : Int)) by omega))) rfl rfl (fun _ _ h => h.1) fr hfr k₀ cs
  rw [isExit0_inv hp] at harr
  exact ⟨a', w', hI, harr⟩
theorem runL0 : seenS (fRun y10 ⟨[], []⟩ (insL (.sym 3) 14)) isNormal (outsL (.sym 3) 15 (.var 0) (.nat 0)) anyH = true := by kernel_rfl
theorem fst_r10 (hpv : pv.oneCell' = true) (I : FSt W pv rem n k S 14 i w₀ a w) (fr : Frame) (hfr : fr.roundOf = none) (k₀ : List Item) (cs : List Frame) :
    ∃ a' w', FSt W pv rem n k S 15 0 w₀ a' w' ∧ Arr Tryz.prog (lone (fr.atR a (.code fr10 :: k₀)) cs w) fr k₀ cs .normal a' w' := by
  obtain ⟨x, a', w', hp, hI, harr⟩ := fst_step (S' := S) (i' := 0) live15 hpv I tr_r10 (t3 := .sym 3) ⟨rfl, rfl⟩ runL0 (decOK_d (by
      intro x hx
      cases hx)) rfl rfl (fun _ _ h => h.1) fr hfr k₀ cs
  rw [isNormal_inv hp] at harr
  exact ⟨a', w', hI, harr⟩
theorem isExit2_inv {e : Ex} (h : isExit2 e = true) : e = .exit 2 := by
  cases e with
  | exit i => match i, h with
    | 2, _ => rfl
  | _ => cases h
theorem fst_blank (hpv : pv.oneCell' = true) (hi : i < k) (hn : n ≤ 20) (hk : k ≤ 20) (I : FSt W pv rem n k (bytesOf (ckOf rem n i)) 15 i w₀ a w) (fr : Frame) (hfr : fr.roundOf = none) (k₀ : List Item) (cs : List Frame) :
    ∃ a' w', FSt W pv rem n k (bytesOf (ckOf rem n (i + 1))) 15 (i + 1) w₀ a' w' ∧ Arr Tryz.prog (lone (fr.atR a (.code fL2 :: k₀)) cs w) fr k₀ cs .normal a' w' := by
  have hb : (bytesOf (ckOf rem n i)).size ≤ 100 := by rw [bytes_size]; have := ck_len rem n i; omega
  have hu := plus_den (ρ := valF pv rem n k (bytesOf (ckOf rem n i)) i) (i := 14) (j := i) rfl (by omega)
  have hsp : (bytesOf (ckOf rem n i)) ++ strBytes 1 32 = bytesOf (ckOf rem n i ++ [.sp]) := bytes_snoc _ [.sp] _ (by rfl)
  have hs1 : (bytesOf (ckOf rem n i) ++ strBytes 1 32).size ≤ 1000 := by rw [ByteArray.size_append]; have : (strBytes 1 32).size = 1 := rfl; omega
  obtain ⟨x, a', w', hp, hI, harr⟩ := fst_step (S' := bytesOf (ckOf rem n (i + 1))) (i' := i + 1) live15 hpv I tr_L2 (t3 := .sym 3) ⟨rfl, rfl⟩ runL5 (decOK_d (by
      intro x hx
      simp only [List.mem_cons, List.not_mem_nil, or_false] at hx
      rcases hx with rfl | rfl
      · exact decide_eq_true (show (i : Int) < (k : Int) by omega)
      · exact decide_eq_true (show ((bytesOf (ckOf rem n i) ++ strBytes 1 32).size : Int) ≤ 1099511627776 by omega))) (by rw [ckOf_sp]; exact hsp) hu (fun _ _ h => h.1) fr hfr k₀ cs
  rw [isNormal_inv hp] at harr
  exact ⟨a', w', hI, harr⟩
theorem fst_blankEnd (hpv : pv.oneCell' = true) (I : FSt W pv rem n k S 15 k w₀ a w) (fr : Frame) (hfr : fr.roundOf = none) (k₀ : List Item) (cs : List Frame) :
    ∃ a' w', FSt W pv rem n k S 15 k w₀ a' w' ∧ Arr Tryz.prog (lone (fr.atR a (.code fL2 :: k₀)) cs w) fr k₀ cs (.exit 2) a' w' := by
  obtain ⟨x, a', w', hp, hI, harr⟩ := fst_step (S' := S) (i' := k) live15 hpv I tr_L2 (t3 := .sym 3) ⟨rfl, rfl⟩ runL6 (decOK_d (by
      intro x hx
      simp only [List.mem_cons, List.not_mem_nil, or_false] at hx
      rcases hx with rfl
      exact decide_eq_false (show ¬ ((k : Int) < (k : Int)) by omega))) rfl rfl (fun _ _ h => h.1) fr hfr k₀ cs
  rw [isExit2_inv hp] at harr
  exact ⟨a', w', hI, harr⟩
end
end SX
/-
  DERIVED: THE SHELF's CONTRACTS AT THIS DUMP, IN PLAIN WORDS (tools/lay-plain.mjs out of 'Iter0.lean', which tools/lay-shelf.mjs wrote): THE SAME DECLARATIONS UNDER THE SAME NAMES: 'import', 'namespace', 'open', 'def', 'theorem' AND NOTHING ELSE: no command of the shelf's: FOR A HAND-IN. Each laying: the table of numbers ('.._ren') and one theorem, a field a fact of the dump's own or the kernel's comparison; each contract: ONE APPLICATION.
-/
namespace Go.Proofs
open Go.Shelf
def Tryz.keys192_ren : Go.Shelf.Ren := ⟨fun | 7 => 192 | 10 => 236 | n => n, fun | 23 => 138 | 26 => 9 | 3 => 3 | 28 => 283 | 0 => 0 | 27 => 282 | 33 => 59 | 4 => 4 | n => n, fun | n => n⟩
theorem Tryz.keys192 : Go.Proofs.SlLaysZ.n7 Tryz.prog Tryz.keys192_ren := {
  mixed := by kernel_rfl
  f7 := ⟨Tryz.f192.name, by decide, Tryz.func192.trans (congrArg some (by kernel_rfl))⟩
  f10 := ⟨Tryz.f236.name, by decide, Tryz.func236.trans (congrArg some (by kernel_rfl))⟩
  t0 := Tryz.underlying0
  a0 := Tryz.isAgg0
  z0 := Tryz.sizeOf0
  v0 := Tryz.zeroValue0
  t4 := Tryz.underlying4
  a4 := Tryz.isAgg4
  z4 := Tryz.sizeOf4
  v4 := Tryz.zeroValue4
  t23 := Tryz.underlying138
  a23 := Tryz.isAgg138
  z23 := Tryz.sizeOf138
  v23 := Tryz.zeroValue138
  t26 := Tryz.underlying9
  a26 := Tryz.isAgg9
  z26 := Tryz.sizeOf9
  v26 := Tryz.zeroValue9
  t27 := Tryz.underlying282
  a27 := Tryz.isAgg282
  z27 := Tryz.sizeOf282
  v27 := Tryz.zeroValue282
  t28 := Tryz.underlying283
  a28 := Tryz.isAgg283
  z28 := Tryz.sizeOf283
  v28 := Tryz.zeroValue283
  t33 := Tryz.underlying59
  a33 := Tryz.isAgg59
  z33 := Tryz.sizeOf59
  v33 := Tryz.zeroValue59 }
def Tryz.sorted191_ren : Go.Shelf.Ren := ⟨fun | 6 => 191 | 8 => 234 | 9 => 235 | 11 => 249 | 13 => 251 | 12 => 250 | 23 => 264 | 24 => 265 | 14 => 255 | 15 => 256 | 16 => 257 | 17 => 258 | 18 => 259 | 19 => 260 | 20 => 261 | 21 => 262 | 22 => 263 | 25 => 267 | 26 => 268 | 27 => 269 | 28 => 270 | 29 => 271 | 30 => 272 | 31 => 277 | n => n, fun | 26 => 9 | 28 => 283 | 24 => 111 | 0 => 0 | 3 => 3 | 37 => 303 | 48 => 317 | 50 => 320 | 4 => 4 | 40 => 329 | 39 => 328 | 45 => 193 | 5 => 5 | 9 => 9 | 51 => 338 | 55 => 342 | 57 => 349 | 58 => 272 | 33 => 59 | n => n, fun | n => n⟩
theorem Tryz.sorted191 : Go.Proofs.SlLaysZ.n6 Tryz.prog Tryz.sorted191_ren := {
  mixed := by kernel_rfl
  f6 := ⟨Tryz.f191.name, by decide, Tryz.func191.trans (congrArg some (by kernel_rfl))⟩
  f8 := ⟨Tryz.f234.name, by decide, Tryz.func234.trans (congrArg some (by kernel_rfl))⟩
  f11 := ⟨Tryz.f249.name, by decide, Tryz.func249.trans (congrArg some (by kernel_rfl))⟩
  t0 := Tryz.underlying0
  a0 := Tryz.isAgg0
  z0 := Tryz.sizeOf0
  v0 := Tryz.zeroValue0
  t24 := Tryz.underlying111
  a24 := Tryz.isAgg111
  z24 := Tryz.sizeOf111
  v24 := Tryz.zeroValue111
  t26 := Tryz.underlying9
  a26 := Tryz.isAgg9
  z26 := Tryz.sizeOf9
  v26 := Tryz.zeroValue9
  t28 := Tryz.underlying283
  a28 := Tryz.isAgg283
  z28 := Tryz.sizeOf283
  v28 := Tryz.zeroValue283
  i26 := by kernel_rfl }
def Tryz.sort235_ren : Go.Shelf.Ren := ⟨fun | 6 => 235 | 8 => 251 | 9 => 250 | 19 => 264 | 20 => 265 | 21 => 255 | 22 => 256 | 23 => 257 | 24 => 258 | 25 => 259 | 26 => 260 | 27 => 261 | 28 => 262 | 29 => 263 | 36 => 267 | 31 => 268 | 32 => 269 | 37 => 270 | 38 => 271 | 39 => 272 | 41 => 277 | n => n, fun | 27 => 111 | 29 => 9 | 3 => 3 | 32 => 303 | 26 => 111 | 0 => 0 | 44 => 317 | 46 => 320 | 4 => 4 | 36 => 329 | 35 => 328 | 41 => 193 | 5 => 5 | 9 => 9 | 53 => 338 | 57 => 342 | 63 => 349 | 64 => 272 | n => n, fun | n => n⟩
theorem Tryz.sort235 : Go.Proofs.SlLaysM.n6 Tryz.prog Tryz.sort235_ren := {
  mixed := by kernel_rfl
  f6 := ⟨Tryz.f235.name, by decide, Tryz.func235.trans (congrArg some (by kernel_rfl))⟩
  f8 := Tryz.func251.trans (congrArg some (by kernel_rfl))
  f9 := ⟨Tryz.f250.name, by decide, Tryz.func250.trans (congrArg some (by kernel_rfl))⟩
  f19 := Tryz.func264.trans (congrArg some (by kernel_rfl))
  f20 := Tryz.func265.trans (congrArg some (by kernel_rfl))
  f21 := ⟨Tryz.f255.name, by decide, Tryz.func255.trans (congrArg some (by kernel_rfl))⟩
  f22 := ⟨Tryz.f256.name, by decide, Tryz.func256.trans (congrArg some (by kernel_rfl))⟩
  f23 := ⟨Tryz.f257.name, by decide, Tryz.func257.trans (congrArg some (by kernel_rfl))⟩
  f24 := ⟨Tryz.f258.name, by decide, Tryz.func258.trans (congrArg some (by kernel_rfl))⟩
  f25 := ⟨Tryz.f259.name, by decide, Tryz.func259.trans (congrArg some (by kernel_rfl))⟩
  f26 := ⟨Tryz.f260.name, by decide, Tryz.func260.trans (congrArg some (by kernel_rfl))⟩
  f27 := ⟨Tryz.f261.name, by decide, Tryz.func261.trans (congrArg some (by kernel_rfl))⟩
  f28 := ⟨Tryz.f262.name, by decide, Tryz.func262.trans (congrArg some (by kernel_rfl))⟩
  f29 := ⟨Tryz.f263.name, by decide, Tryz.func263.trans (congrArg some (by kernel_rfl))⟩
  f31 := Tryz.func268.trans (congrArg some (by kernel_rfl))
  f32 := Tryz.func269.trans (congrArg some (by kernel_rfl))
  f36 := ⟨Tryz.f267.name, by decide, Tryz.func267.trans (congrArg some (by kernel_rfl))⟩
  f37 := ⟨Tryz.f270.name, by decide, Tryz.func270.trans (congrArg some (by kernel_rfl))⟩
  f38 := ⟨Tryz.f271.name, by decide, Tryz.func271.trans (congrArg some (by kernel_rfl))⟩
  f39 := ⟨Tryz.f272.name, by decide, Tryz.func272.trans (congrArg some (by kernel_rfl))⟩
  f41 := ⟨Tryz.f277.name, by decide, Tryz.func277.trans (congrArg some (by kernel_rfl))⟩
  t0 := Tryz.underlying0
  a0 := Tryz.isAgg0
  z0 := Tryz.sizeOf0
  v0 := Tryz.zeroValue0
  t3 := Tryz.underlying3
  a3 := Tryz.isAgg3
  z3 := Tryz.sizeOf3
  v3 := Tryz.zeroValue3
  t4 := Tryz.underlying4
  a4 := Tryz.isAgg4
  z4 := Tryz.sizeOf4
  v4 := Tryz.zeroValue4
  t5 := Tryz.underlying5
  a5 := Tryz.isAgg5
  z5 := Tryz.sizeOf5
  v5 := Tryz.zeroValue5
  t9 := Tryz.underlying9
  a9 := Tryz.isAgg9
  z9 := Tryz.sizeOf9
  v9 := Tryz.zeroValue9
  t26 := Tryz.underlying111
  a26 := Tryz.isAgg111
  z26 := Tryz.sizeOf111
  v26 := Tryz.zeroValue111
  t27 := Tryz.underlying111
  a27 := Tryz.isAgg111
  z27 := Tryz.sizeOf111
  v27 := Tryz.zeroValue111
  t29 := Tryz.underlying9
  a29 := Tryz.isAgg9
  z29 := Tryz.sizeOf9
  v29 := Tryz.zeroValue9
  t32 := Tryz.underlying303
  a32 := Tryz.isAgg303
  z32 := Tryz.sizeOf303
  v32 := Tryz.zeroValue303
  t35 := Tryz.underlying328
  a35 := Tryz.isAgg328
  z35 := Tryz.sizeOf328
  v35 := Tryz.zeroValue328
  t36 := Tryz.underlying329
  a36 := Tryz.isAgg329
  z36 := Tryz.sizeOf329
  v36 := Tryz.zeroValue329
  t41 := Tryz.underlying193
  a41 := Tryz.isAgg193
  z41 := Tryz.sizeOf193
  v41 := Tryz.zeroValue193
  t44 := Tryz.underlying317
  a44 := Tryz.isAgg317
  z44 := Tryz.sizeOf317
  v44 := Tryz.zeroValue317
  t46 := Tryz.underlying320
  a46 := Tryz.isAgg320
  z46 := Tryz.sizeOf320
  v46 := Tryz.zeroValue320
  t53 := Tryz.underlying338
  a53 := Tryz.isAgg338
  z53 := Tryz.sizeOf338
  v53 := Tryz.zeroValue338
  t57 := Tryz.underlying342
  a57 := Tryz.isAgg342
  z57 := Tryz.sizeOf342
  v57 := Tryz.zeroValue342
  t63 := Tryz.underlying349
  a63 := Tryz.isAgg349
  z63 := Tryz.sizeOf349
  v63 := Tryz.zeroValue349
  t64 := Tryz.underlying272
  a64 := Tryz.isAgg272
  z64 := Tryz.sizeOf272
  v64 := Tryz.zeroValue272 }
open Go.RowKit Go.Maps Go.Sort
/-- slices.Sort's two contracts at this dump, at the fence that asks nothing. -/
theorem Tryz.sorts191 (m : Nat) : AnyZ.SortsIn Tryz.prog Tryz.sorted191_ren Fence.wide m :=
  ⟨fun blk off cap ss W hH hblk hsz => callsIn_wide.2 (AnyM.slices_Sort_string Tryz.sort235 blk off cap ss W hH hblk hsz),
   fun p cap W => callsIn_wide.2 (AnyM.slices_Sort_string_none Tryz.sort235 p cap W)⟩

/-- **maps.Keys[map[string]int,string,int], at whatever map, the nil one too:** a function value over ONE NEW BLOCK, which holds the map. -/
theorem Tryz.maps_Keys_192 (mb : Option Nat) (W : World) : CallsIn Fence.wide 5 Tryz.prog 192 #[.map mb] W fun e w' => e = .returned (.func (.func 236) #[] #[.pointer (some ⟨W.heap.size, 0, none⟩)]) ∧ w' = W.alloc (.cells #[.map mb] 138) :=
  AnyZ.keys_in Tryz.keys192 Fence.wide 5 trivial rfl mb W

/-- **slices.Sorted[string] AT WHAT maps.Keys[map[string]int,string,int] HANDED BACK FOR A MAP THAT IS NOT nil** ('w': the world AHEAD of maps.Keys' call): A new slice that HOLDS THE MAP's KEYS, SORTED; nil just where it has none; nothing that lay before has turned. -/
theorem Tryz.slices_Sorted_keys_191_192 {H : Type} (b nn : Nat) (D0 : DataW H) (R : Value → Option (DataW H × List MemPlace)) (w : World) (hown : w.ownsMap Tryz.prog 9 R b nn D0) (hmax : Maps.size D0 ≤ maxLen) (hbytes : Maps.size D0 * 16 ≤ 140737488355328) :
    CallsIn Fence.wide 5 Tryz.prog 191 #[.func (.func 236) #[] #[.pointer (some ⟨w.heap.size, 0, none⟩)]] (w.alloc (.cells #[.map (some b)] 138)) fun e w' => ∃ (v : Value) (ss : List (List UInt8)), e = .returned v ∧ ss.Perm (strKeys D0) ∧
      w'.ownsRow (w.alloc (.cells #[.map (some b)] 138)).heap.size 9 1 v ss.length ((ss.mergeSort (fun x y => decide (x ≤ y))).map encStr) ∧ (v = .slice none 0 0 ↔ ss = []) ∧ Below (w.alloc (.cells #[.map (some b)] 138)).heap.size (w.alloc (.cells #[.map (some b)] 138)) w' := by
  have hbl := hown.lt
  have hseq : SeqGives Fence.wide 2 Tryz.prog 236 #[.pointer (some ⟨w.heap.size, 0, none⟩)] encStr (fun ss => ss.Perm (strKeys D0)) (Maps.size D0) (w.alloc (.cells #[.map (some b)] 138)) :=
    AnyZ.keys_gives (ρ := Tryz.keys192_ren) { Tryz.keys192 with } Fence.wide _ trivial rfl (by omega) w.heap.size b nn D0 _ (by simp) (by simp) (by
      obtain ⟨es, clock, hb, Ft, hs, hD⟩ := hown
      exact ⟨es, clock, (Below.heap_alloc _ _ b hbl).trans hb, Ft, hs, hD⟩)
  exact AnyZ.sorted_in Tryz.sorted191 Fence.wide 5 trivial trivial trivial trivial rfl (by omega) (Tryz.sorts191 _) (enters_of Tryz.func235 (by kernel_rfl) rfl) 236 #[.pointer (some ⟨w.heap.size, 0, none⟩)] trivial (enters_of Tryz.func236 (by kernel_rfl) rfl) _ _ hmax hbytes _ hseq

/-- **.. AND FOR THE nil MAP: nil.** -/
theorem Tryz.slices_Sorted_keys_nil_191_192 (w : World) :
    CallsIn Fence.wide 5 Tryz.prog 191 #[.func (.func 236) #[] #[.pointer (some ⟨w.heap.size, 0, none⟩)]] (w.alloc (.cells #[.map none] 138)) fun e w' => ∃ (v : Value) (ss : List (List UInt8)), e = .returned v ∧ ss = [] ∧
      w'.ownsRow (w.alloc (.cells #[.map none] 138)).heap.size 9 1 v ss.length ((ss.mergeSort (fun x y => decide (x ≤ y))).map encStr) ∧ (v = .slice none 0 0 ↔ ss = []) ∧ Below (w.alloc (.cells #[.map none] 138)).heap.size (w.alloc (.cells #[.map none] 138)) w' := by
  have hseq : SeqGives Fence.wide 2 Tryz.prog 236 #[.pointer (some ⟨w.heap.size, 0, none⟩)] encStr (fun ss : List (List UInt8) => ss = []) 0 (w.alloc (.cells #[.map none] 138)) :=
    AnyZ.keys_gives_nil (ρ := Tryz.keys192_ren) { Tryz.keys192 with } Fence.wide _ trivial rfl w.heap.size _ (by simp) (by simp)
  exact AnyZ.sorted_in Tryz.sorted191 Fence.wide 5 trivial trivial trivial trivial rfl (by omega) (Tryz.sorts191 _) (enters_of Tryz.func235 (by kernel_rfl) rfl) 236 #[.pointer (some ⟨w.heap.size, 0, none⟩)] trivial (enters_of Tryz.func236 (by kernel_rfl) rfl) _ 0 (Nat.zero_le _) (by omega) _ hseq

end Go.Proofs
namespace SX
open Go Go.Proofs Go.Maps
set_option linter.unusedVariables false
set_option maxRecDepth 100000
/-! ### what is known of a few functions -/
/-- maps.Keys -/
noncomputable def spKeys (az : List AV) (h : H) : RV := match az with
  | [.map q] => .ok (.func 236 [] [.ptr h.next 0]) (h.alloc (.row true [.map q]))
  | _ => .fail
def keyB : AV → List UInt8
  | .str l c => (strBytes l c).data.toList
  | _ => []
def leK (x y : AV) : Bool := match x, y with
  | .str a b, .str c d => Bool.not (strLt c d a b (a + 1) 0)
  | _, _ => true
def insK (x : AV) : List AV → List AV
  | [] => [x]
  | y :: l => match leK x y with
    | true => x :: y :: l
    | false => y :: insK x l
def sortK : List AV → List AV
  | [] => []
  | x :: l => insK x (sortK l)
def okKey : AV → Bool
  | .str l _ => Nat.ble l 16384
  | _ => false
def okKeys : List AV → Bool
  | [] => true
  | x :: l => okKey x && okKeys l
def chainB : List AV → Bool
  | x :: l => (match l with
    | y :: _ => decide (keyB x ≤ keyB y)
    | [] => true) && chainB l
  | [] => true
def keysOf : List (AV × AV) → List AV
  | [] => []
  | e :: es => e.1 :: keysOf es
/-- slices.Sorted, of what maps.Keys handed back -/
noncomputable def spSorted (az : List AV) (h : H) : RV := match az with
  | [.func g [] [.ptr p o]] => Bool.rec (motive := fun _ => RV) .fail (match TB.get p h.t with
    | .row true [.map b] => (match TB.get b h.t with
      | .map [] => .ok .nils h
      | .map (e :: es) => Bool.rec (motive := fun _ => RV) .fail (.ok (.slice h.next 0 1 (lenL (sortK (keysOf (e :: es)))) (lenL (sortK (keysOf (e :: es)))) false) (h.alloc (.row false (sortK (keysOf (e :: es))))))
        (okKeys (sortK (keysOf (e :: es))) && (chainB (sortK (keysOf (e :: es))) && Nat.ble (lenL (sortK (keysOf (e :: es)))) 1000))
      | _ => .fail)
    | _ => .fail) (Nat.beq g 236 && Nat.beq o 0)
  | _ => .fail
theorem insK_perm (x : AV) : ∀ l, (insK x l).Perm (x :: l)
  | [] => .refl _
  | y :: l => by
    unfold insK
    split
    · exact .refl _
    · exact ((insK_perm x l).cons y).trans (List.Perm.swap x y l)
theorem sortK_perm : ∀ l, (sortK l).Perm l
  | [] => .refl _
  | x :: l => (insK_perm x _).trans ((sortK_perm l).cons x)
theorem okKeys_inv : ∀ {l : List AV}, okKeys l = true → ∀ x ∈ l, ∃ n c, x = .str n c ∧ n ≤ 16384
  | [], _, x, hx => by cases hx
  | y :: l, h, x, hx => by
    simp only [okKeys, Bool.and_eq_true] at h
    rcases List.mem_cons.1 hx with rfl | hx
    · cases x with
      | str n c => exact ⟨n, c, rfl, Nat.le_of_ble_eq_true h.1⟩
      | _ => cases h.1
    · exact okKeys_inv h.2 x hx
theorem chainB_inv : ∀ {l : List AV}, chainB l = true → (l.map keyB).Pairwise (fun x y => leB x y = true)
  | [], _ => List.Pairwise.nil
  | [x], _ => List.pairwise_singleton _ _
  | x :: y :: l, h => by
    have h1 : decide (keyB x ≤ keyB y) = true ∧ chainB (y :: l) = true := by
      have h' : (decide (keyB x ≤ keyB y) && chainB (y :: l)) = true := h
      simpa only [Bool.and_eq_true] using h'
    have ih := chainB_inv h1.2
    refine List.Pairwise.cons (fun z hz => ?_) ih
    rcases List.mem_cons.1 hz with rfl | hz
    · exact h1.1
    · have h2 := (List.pairwise_cons.1 ih).1 z hz
      have h3 := h1.1
      simp only [leB, decide_eq_true_eq] at h2 h3 ⊢
      exact List.le_trans h3 h2
/-- what is asked of what is known of a function -/
def SpecOK (P : Program) (ρ : Val) (f : FuncId) (s : List AV → H → RV) : Prop := ∀ {az : List AV} {h h' : H} {v : AV}, s az h = .ok v h' → ∀ {L : Nat} {m : MM} {w : World} {args : Array Value}, Rel P ρ m h w → L ≤ h.next.toNat → Vs ρ m az args.toList →
  (callFunc f args).run P w = .ok (.enter f args) w ∧ ∀ cs, ∃ m' w' v', Step P ρ L m h w m' h' w' ∧ V ρ m' v v' ∧ Leaves P f args w cs v' w'
section
variable {ρ : Val} {m m' : MM} {h h' : H} {w w' : World} {L : Nat}
theorem vs_one {a : AV} {args : Array Value} (hV : Vs ρ m [a] args.toList) : ∃ v, args = #[v] ∧ V ρ m a v := by
  obtain ⟨v, vs, h1, h2, h3⟩ := hV
  have h3' : vs = [] := h3
  subst h3'
  exact ⟨v, by apply Array.toList_inj.1; simpa using h1, h2⟩
theorem enters_Tryz {f : FuncId} {fn : Func} {xf : XFunc} (hf : Tryz.prog.funcs[f]? = some fn) (ht : trFunc Tryz.prog fn = some xf) (args : Array Value) (w : World) : (callFunc f args).run Tryz.prog w = .ok (.enter f args) w :=
  run_callFunc hf ht args w
theorem Step.alloc (r : Rel Tryz.prog ρ m h w) (hL : L ≤ h.next.toNat) {B : Blk} {o : Obj} {z : Nat} (hn : NewR Tryz.prog ρ m B o z) :
    Step Tryz.prog ρ L m h w (upd m h.next (w.heap.size, 0, z)) (h.alloc B) { w with heap := w.heap.push o } := by
  have s1 := Step.ahead (L := L) r B hL
  have hg : TB.get h.next (h.alloc B).t = B := by rw [H.alloc_get, if_pos rfl]
  have s2 := Rel.born (L := L) (p := h.next) (o := o) (z := z) s1.rel (r.fresh _ (Nat.le_refl _)).1 hL (by rw [H.alloc_next]; omega) (by rw [hg]; exact hn)
  exact s1.trans s2
theorem keys_spec : SpecOK Tryz.prog ρ 192 spKeys := by
  intro az h h' v e L m w args r hL hV
  unfold spKeys at e
  split at e
  · rename_i q
    cases e
    obtain ⟨x, rfl, hx⟩ := vs_one hV
    obtain ⟨c, b, z, hm, rfl⟩ := hx
    refine ⟨enters_Tryz Tryz.func192 t192 _ _, fun cs => ?_⟩
    obtain ⟨v', w', ⟨hv, rfl⟩, hl⟩ := leaves_calls (R := fun v w' => v = Value.func (.func 236) #[] #[.pointer (some ⟨w.heap.size, 0, none⟩)] ∧ w' = w.alloc (.cells #[.map (some c)] 138))
      ((callsIn_wide.1 (Tryz.maps_Keys_192 (some c) w)).mono (fun e w' ⟨h1, h2⟩ => ⟨_, h1, rfl, h2⟩)) cs
    have s := Step.alloc (L := L) r hL (B := .row true [.map q]) (o := .cells #[.map (some c)] 138 (0, 0)) (z := 1) (NewR.row (cs := #[.map (some c)]) ⟨_, [], rfl, ⟨c, b, z, hm, rfl⟩, rfl⟩ (by intro u hu; simp at hu; subst hu; rfl))
    refine ⟨_, _, v', s, ?_, hl⟩
    subst hv
    exact ⟨#[], _, rfl, rfl, ⟨_, [], rfl, ⟨w.heap.size, 0, 1, upd_same .., rfl⟩, rfl⟩⟩
  · cases e
theorem Step.adopt (r : Rel Tryz.prog ρ m h w) (hL : L ≤ h.next.toNat) {B : Blk} {g z : Nat} (hsz : w.heap.size ≤ w'.heap.size) (ho : ∀ c, c < w.heap.size → w'.heap[c]? = w.heap[c]?) (htp : w'.tape = w.tape ∧ w'.os = w.os ∧ w'.output = w.output)
    (hg : w.heap.size ≤ g) (hg' : g < w'.heap.size) (hB : BlkR Tryz.prog ρ (upd m h.next (g, 0, z)) w' g 0 z B) : Step Tryz.prog ρ L m h w (upd m h.next (g, 0, z)) (h.alloc B) w' where
  ext := Ext.upd (r.fresh _ (Nat.le_refl _)).1
  rel := {
    blk := fun q c b s hq => by
      by_cases hqp : q = h.next
      · subst hqp
        rw [upd_same] at hq; cases hq
        rw [H.alloc_get, if_pos rfl]; exact ⟨hg', hB⟩
      · rw [upd_other hqp] at hq
        rw [H.alloc_get, if_neg hqp]
        obtain ⟨h1, h2⟩ := r.blk q c b s hq
        exact ⟨by omega, h2.mono (Ext.upd (r.fresh _ (Nat.le_refl _)).1) (ho c h1)⟩
    inj := fun q q' c b s b' s' hq hq' => by
      by_cases hqp : q = h.next
      · by_cases hqp' : q' = h.next
        · exact .inl (hqp.trans hqp'.symm)
        · subst hqp
          rw [upd_same] at hq; cases hq
          rw [upd_other hqp'] at hq'
          have := (r.blk q' _ _ _ hq').1
          omega
      · by_cases hqp' : q' = h.next
        · subst hqp'
          rw [upd_same] at hq'; cases hq'
          rw [upd_other hqp] at hq
          have := (r.blk q _ _ _ hq).1
          omega
        · rw [upd_other hqp] at hq; rw [upd_other hqp'] at hq'
          rw [H.alloc_get, if_neg hqp, H.alloc_get, if_neg hqp']
          exact r.inj q q' c b s b' s' hq hq'
    fresh := fun q hq => by
      rw [H.alloc_next] at hq
      have hne : q ≠ h.next := fun e => by rw [e] at hq; omega
      rw [upd_other hne, H.alloc_get, if_neg hne]
      exact r.fresh q (by omega) }
  size := hsz
  framed c hc _ := ho c hc
  tape := htp
  next := by rw [H.alloc_next]; omega
  still p hp hm := by
    have hne : p ≠ h.next := fun e => by rw [e] at hp; omega
    exact ⟨by rw [upd_other hne]; exact hm, by rw [H.alloc_get, if_neg hne]⟩
  news p x hx := by
    by_cases hqp : p = h.next
    · subst hqp
      rw [upd_same] at hx; cases hx
      exact .inr (.inl hg)
    · rw [upd_other hqp] at hx; exact .inl hx
  ro p cs hp := by
    have hne : p ≠ h.next := fun e => by have := (r.fresh p (by rw [e]; exact Nat.le_refl _)).2; rw [this] at hp; cases hp
    rw [H.alloc_get, if_neg hne]; exact hp
/-- slices.Sorted, whatever the map holds -/
theorem sorted_at {c q : Nat} {D0 : DataW Unit} {R : Value → Option (DataW Unit × List MemPlace)} {nn : Nat} (hc : c < w.heap.size) (hcell : w.cell? ⟨c, 0, none⟩ = some (.map (some q))) (hown : w.ownsMap Tryz.prog 9 R q nn D0) (hmax : Maps.size D0 ≤ 1000000) (cs : List Frame) :
    ∃ v w' ss, ss.Perm (strKeys D0) ∧ w'.ownsRow w.heap.size 9 1 v ss.length ((ss.mergeSort (fun x y => decide (x ≤ y))).map encStr) ∧ (v = .slice none 0 0 ↔ ss = []) ∧ RowKit.Below w.heap.size w w' ∧
      Leaves Tryz.prog 191 #[.func (.func 236) #[] #[.pointer (some ⟨c, 0, none⟩)]] w cs v w' := by
  have hseq : SeqGives Fence.wide 2 Tryz.prog 236 #[.pointer (some ⟨c, 0, none⟩)] encStr (fun ss => ss.Perm (strKeys D0)) (Maps.size D0) w :=
    AnyZ.keys_gives (ρ := Tryz.keys192_ren) { Tryz.keys192 with } Fence.wide _ trivial rfl (by omega) c q nn D0 w hc hcell hown
  have hcall := AnyZ.sorted_in Tryz.sorted191 Fence.wide 5 trivial trivial trivial trivial rfl (by omega) (Tryz.sorts191 _) (Proofs.enters_of Tryz.func235 (by kernel_rfl) rfl) 236 #[.pointer (some ⟨c, 0, none⟩)] trivial (Proofs.enters_of Tryz.func236 (by kernel_rfl) rfl) _ _ (Nat.le_trans hmax (by decide)) (by omega) _ hseq
  obtain ⟨v, w', ⟨ss, h1, h2, h3, h4⟩, hl⟩ := leaves_calls ((callsIn_wide.1 hcall).mono (fun e w' ⟨v, ss, h0, h1, h2, h3, h4⟩ => ⟨v, h0, (⟨ss, h1, h2, h3, h4⟩ : ∃ ss, ss.Perm (strKeys D0) ∧ w'.ownsRow w.heap.size 9 1 v ss.length ((ss.mergeSort (fun x y => decide (x ≤ y))).map encStr) ∧ (v = .slice none 0 0 ↔ ss = []) ∧ RowKit.Below w.heap.size w w')⟩)) cs
  exact ⟨v, w', ss, h1, h2, h3, h4, hl⟩
theorem keysOf_length : ∀ es : List (AV × AV), (keysOf es).length = es.length
  | [] => rfl
  | e :: es => congrArg Nat.succ (keysOf_length es)
def rUnit : Value → Option (DataW Unit × List MemPlace) := fun _ => some (.nil, [])
theorem entR_keys : ∀ {es : List (AV × AV)} {xs : List MapEntry}, EntR ρ m es xs → (∀ x ∈ keysOf es, ∃ n c, x = .str n c ∧ n ≤ 16384) →
    (∀ x ∈ xs, ∃ y, WideElems.rd Tryz.prog 9 rUnit x = some y) ∧ ((xs.map (WideElems.rg Tryz.prog 9 rUnit)).map fun p => strOf p.1) = (keysOf es).map keyB ∧ ∀ n c, .str n c ∈ keysOf es → ∃ s : ByteArray, s.size = n ∧ strOfList s.data.toList = c
  | [], xs, h, _ => by have : xs = [] := h; subst this; exact ⟨(fun x hx => by cases hx), rfl, fun n c hx => by cases hx⟩
  | e :: es, xs, h, ho => by
    obtain ⟨x, xs', rfl, h1, _, h3⟩ := h
    obtain ⟨n, c, hk, hn⟩ := ho e.1 List.mem_cons_self
    rw [hk] at h1
    obtain ⟨s, hs, hsl, hsc⟩ := h1
    obtain ⟨g1, g2, g3⟩ := entR_keys h3 (fun y hy => ho y (List.mem_cons_of_mem _ hy))
    have hread : WideElems.rd Tryz.prog 9 rUnit x = some (.string s.data.toList, .nil) := by
      unfold WideElems.rd
      rw [keyOf_string Tryz.underlying9, hs]
      have hsm : s.size ≤ maxLen := by have : (16384 : Nat) ≤ maxLen := by decide
                                       omega
      simp [mapKey, Tryz.underlying9, hsm, rUnit]
    refine ⟨fun y hy => ?_, ?_, fun n' c' hm => ?_⟩
    · rcases List.mem_cons.1 hy with rfl | hy
      · exact ⟨_, hread⟩
      · exact g1 y hy
    · rw [List.map_cons, List.map_cons, g2, WideElems.rg, hread]
      show s.data.toList :: _ = keyB e.1 :: (keysOf es).map keyB
      rw [hk]
      show _ = (strBytes n c).data.toList :: _
      rw [← strBytes_eq hsl hsc]
    · rcases List.mem_cons.1 hm with hm | hm
      · rw [hk] at hm; cases hm; exact ⟨s, hsl, hsc⟩
      · exact g3 n' c' hm
theorem sorted_spec : SpecOK Tryz.prog ρ 191 spSorted := by
  intro az h h' v e L m w args r hL hV
  unfold spSorted at e
  split at e
  · rename_i g p o
    cases hgo : (Nat.beq g 236 && Nat.beq o 0) with
    | false => rw [hgo] at e; cases e
    | true =>
      rw [hgo] at e
      simp only [Bool.and_eq_true] at hgo
      obtain rfl : g = 236 := Nat.eq_of_beq_eq_true hgo.1
      obtain rfl : o = 0 := Nat.eq_of_beq_eq_true hgo.2
      obtain ⟨x, rfl, hx⟩ := vs_one hV
      obtain ⟨a, b, rfl, ha, hb⟩ := hx
      have ha' : a = #[] := by have : a.toList = [] := ha; simpa using this
      subst ha'
      obtain ⟨y, rfl, hy⟩ := vs_one hb
      obtain ⟨c, b₀, z, hm, rfl⟩ := hy
      refine ⟨Proofs.enters_of Tryz.func191 (by kernel_rfl) rfl _ _, fun cs => ?_⟩
      split at e
      · rename_i q hrow
        obtain ⟨hc, hblk⟩ := r.blk p c b₀ z hm
        rw [hrow] at hblk
        obtain ⟨cells, et, fr, g1, g2, g3, g4, g5, g6⟩ := hblk
        have hb0 : b₀ = 0 := g5 rfl
        subst hb0
        obtain ⟨u, hu, hVu, _⟩ := g6 0 (.map q) rfl
        obtain ⟨cq, bq, zq, hmq, rfl⟩ := hVu
        have hcell : w.cell? ⟨c, 0, none⟩ = some (.map (some cq)) := by
          simp only [World.cell?, g1]
          simpa using hu
        split at e
        · rename_i hmap
          cases e
          obtain ⟨_, hbq⟩ := r.blk q cq bq zq hmq
          rw [hmap] at hbq
          obtain ⟨ents, clock, k1, k2, k3, k4⟩ := hbq
          have hnil : ents.toList = [] := k2
          have hown : w.ownsMap Tryz.prog 9 rUnit cq 0 (.map []) := ⟨ents, clock, k1, ⟨by simp at hnil; simp [hnil], k3, fun x hx => by rw [hnil] at hx; cases hx⟩, by simp at hnil; simp [hnil], by rw [hnil]; rfl⟩
          obtain ⟨v, w', ss, h1, h2, h3, h4, hl⟩ := sorted_at hc hcell hown (by show 0 ≤ 1000000; omega) cs
          have hss : ss = [] := List.perm_nil.1 h1
          have hv := h3.2 hss
          subst hv
          exact ⟨m, w', _, Rel.kept r h4.size h4.block ⟨h4.tape, h4.os, h4.output⟩, rfl, hl⟩
        · rename_i e0 es hmap
          generalize hR : sortK (keysOf (e0 :: es)) = R at e
          have hRp : R.Perm (keysOf (e0 :: es)) := hR ▸ sortK_perm _
          cases hbl : (okKeys R && (chainB R && Nat.ble (lenL R) 1000)) with
          | false => rw [hbl] at e; cases e
          | true =>
            rw [hbl] at e
            cases e
            simp only [Bool.and_eq_true, lenL_eq] at hbl
            have hok := okKeys_inv hbl.1
            have hch := chainB_inv hbl.2.1
            have hlen := Nat.le_of_ble_eq_true hbl.2.2
            obtain ⟨_, hbq⟩ := r.blk q cq bq zq hmq
            rw [hmap] at hbq
            obtain ⟨ents, clock, k1, k2, k3, k4⟩ := hbq
            have hokE : ∀ x ∈ keysOf (e0 :: es), ∃ n c, x = .str n c ∧ n ≤ 16384 := fun x hx => hok x (hRp.mem_iff.2 hx)
            obtain ⟨hrd, hkey, hVk⟩ := entR_keys (m := m) (ρ := ρ) k2 hokE
            have hlenE : ents.size = R.length := by rw [hRp.length_eq, ← Array.length_toList, k2.length, keysOf_length]
            have hown : w.ownsMap Tryz.prog 9 rUnit cq ents.size (.map ((ents.toList.map (WideElems.rg Tryz.prog 9 rUnit)).foldr DataW.insert [])) :=
              ⟨ents, clock, k1, ⟨by rw [hlenE]; exact Nat.le_trans hlen (by decide), k3, hrd⟩, Nat.le_refl _, rfl⟩
            have hperm : (strKeys (DataW.map ((ents.toList.map (WideElems.rg Tryz.prog 9 rUnit)).foldr DataW.insert []))).Perm (R.map keyB) := by
              have h1 : (strKeys (DataW.map ((ents.toList.map (WideElems.rg Tryz.prog 9 rUnit)).foldr DataW.insert []))).Perm ((ents.toList.map (WideElems.rg Tryz.prog 9 rUnit)).map fun p => strOf p.1) := (WideShapes.sorted_perm _).map _
              rw [hkey] at h1
              exact h1.trans (hRp.map keyB).symm
            obtain ⟨v, w', ss, h1, h2, h3, h4, hl⟩ := sorted_at hc hcell hown (by
              have := ((WideShapes.sorted_perm (ents.toList.map (WideElems.rg (H := Unit) Tryz.prog 9 rUnit))).length_eq)
              have h5 : ents.toList.length = R.length := by rw [Array.length_toList]; exact hlenE
              rw [List.length_map, h5] at this
              show List.length _ ≤ 1000000
              rw [this]; omega) cs
            have hss : ss.mergeSort (fun x y => decide (x ≤ y)) = R.map keyB := (mergeSort_of_perm (h1.trans hperm)).trans (List.mergeSort_of_pairwise hch)
            have hssl : ss.length = R.length := by rw [(h1.trans hperm).length_eq, List.length_map]
            have hR0 : 0 < R.length := by rw [hRp.length_eq]; exact Nat.succ_pos _
            rw [hss, hssl] at h2
            obtain ⟨_, h2 | ⟨g, cap, cur, rfl, hg, hcur, hcap, _, hsize, htake⟩⟩ := h2
            · exact absurd h2.2 (by omega)
            · have hg' : g < w'.heap.size := (Array.getElem?_eq_some_iff.1 hcur).1
              have hs1 : cur.size = cap := by simpa using hsize
              have htk : cur.toList.take R.length = (R.map keyB).map encStr := by rw [Nat.mul_one] at htake; exact htake
              refine ⟨_, w', _, Step.adopt (z := cur.size) r hL h4.size h4.block ⟨h4.tape, h4.os, h4.output⟩ hg hg' ⟨cur, 9, (0, 0), hcur, rfl, fun i _ hh => by omega, (by omega), (fun hh => by cases hh), fun i x hx => ?_⟩, ?_, hl⟩
              · have hi : i < R.length := (List.getElem?_eq_some_iff.1 hx).1
                have hcu : cur[0 + i]? = some (encStr (keyB x)) := by
                  have h5 : (cur.toList.take R.length)[i]? = some (encStr (keyB x)) := by rw [htk, List.getElem?_map, List.getElem?_map, hx]; rfl
                  rw [List.getElem?_take, if_pos hi] at h5
                  simpa using h5
                have hxk : x ∈ keysOf (e0 :: es) := hRp.mem_iff.1 (List.mem_of_getElem? hx)
                obtain ⟨n, c', rfl, _⟩ := hokE x hxk
                obtain ⟨s, hs1, hs2⟩ := hVk _ _ hxk
                have hse := strBytes_eq hs1 hs2
                refine ⟨_, hcu, ⟨s, ?_, hs1, hs2⟩, rfl⟩
                show encStr (strBytes n c').data.toList = _
                rw [← hse]
              · exact ⟨g, 0, cur.size, 0, cap, upd_same .., by rw [lenL_eq], (fun hh => by cases hh), by rw [lenL_eq]; exact hcap, .inl ⟨rfl, by rw [hs1]; omega⟩⟩
        · cases e
      · cases e
  · cases e
end
end SX
namespace SX
open Go Go.Proofs Go.Maps
set_option linter.unusedVariables false
set_option maxRecDepth 100000
/-! ### the last piece: what is known ahead of it -/
def cols : Nat → Option Nat
  | 0 => some 40 | 1 => some 44 | 2 => some 48 | 3 => some 40 | 4 => some 30 | 5 => some 47 | 6 => some 40 | 7 => some 40 | 8 => some 55 | 9 => some 5 | 11 => some 46 | 12 => some 46 | 13 => some 92 | _ => none
def eX (j : Nat) : SS := .cat (.var 0) (.lit (txts j).1 (txts j).2.1)
def dCol : Option Nat → List (Rl × SI × SI × Bool)
  | some c => [(.eq, plus (.var 22) c, plus (.var 12) (c + 1), true)]
  | none => []
def dEnd (j : Nat) : Dec := ⟨(List.range ((txts j).1 + 1)).map (fun a => (.lt, plus (.var 20) a, .len (eX j), Nat.blt a (txts j).1)) ++ ((List.range ((txts j).1 + 1)).map (fun a => (.eq, plus (.var 20) a, .len (eX j), Nat.beq a (txts j).1)) ++
  ((.le, .len (eX j), .nat 1099511627776, true) :: (.lt, .nat 16384, .len (eX j), false) :: (.eq, .var 20, .len (eX j), false) :: (.eq, .var 21, plus (.var 11) 1, true) :: dCol (cols j))), [(eX j, .var 20, (txts j).1, (txts j).2.1, true)]⟩
/-- blanks, ahead of a text -/
noncomputable def spBl (e : SS) (D : Dec) (az : List AV) (h : H) : RV := match az with
  | [.ptr p o] => Bool.rec (motive := fun _ => RV) .fail (match TB.get p h.t with
    | .row false cs => Bool.rec (motive := fun _ => RV) (run (K0 D) 100 42 az h) (.ok (.tup []) (h.put p (.row false [.sx e, .int .i64 (.var 20), .int .i64 (.var 21), .int .i64 (.var 22)])))
      (avEqs cs [.sx e, .int .i64 (.nat 0), .int .i64 (.nat 1), .int .i64 (.nat 1)])
    | _ => .fail) (Nat.beq o 0)
  | _ => .fail
noncomputable def spT (az : List AV) (h : H) : RV := match az with
  | [] => .ok (.bool .t) h
  | _ => .fail
noncomputable def pickS (b : Bool) (x y : Option (List AV → H → RV)) : Option (List AV → H → RV) := Bool.rec (motive := fun _ => Option (List AV → H → RV)) y x b
noncomputable def KL : Known := ⟨xtree.get, fun i => pickS (Nat.beq i 191) (some spSorted) (pickS (Nat.beq i 192) (some spKeys) none), ⟨[], []⟩⟩
noncomputable def KD (j : Nat) : Known := ⟨xtree.get, fun i => pickS (Nat.beq i 42) (some (spBl (eX j) (dEnd j))) (pickS (Nat.beq i 7) (some spT) (pickS (Nat.beq i 191) (some spSorted) (pickS (Nat.beq i 192) (some spKeys) none))), dEnd j⟩
def envD : TV := envL [(10, .ptr .h 0), (11, .int .i64 (.var 11)), (12, .int .i64 (.var 12)), (13, .sx (.var 0))]
def isRet : Ex → Bool | .ret => true | _ => false
noncomputable def okD (j : Nat) : Bool := seenS (evC yR (cxN 1000 (KD j)) envD (hOne (.row false (cellsX j)))) isRet [(8, .bool .t)] anyH
end SX
namespace SX
open Go Go.Proofs Go.Maps
set_option linter.unusedVariables false
set_option maxRecDepth 100000
section
variable {ρ : Val} {m m' : MM} {h h' : H} {w w' : World} {L : Nat}
theorem pickS_inv {b : Bool} {x y : Option (List AV → H → RV)} {s : List AV → H → RV} (h : pickS b x y = some s) : (b = true ∧ x = some s) ∨ (b = false ∧ y = some s) := by
  cases b with
  | true => exact .inl ⟨rfl, h⟩
  | false => exact .inr ⟨rfl, h⟩
theorem fn_ok (f : FuncId) : (∃ fn, Tryz.prog.funcs[f]? = some fn ∧ trFunc Tryz.prog fn = some (xtree.get f)) ∨ (xtree.get f).body = .bad := by
  rcases FT.get_ok xtree_ok f with ⟨fn, h1, h2⟩ | h
  · exact .inl ⟨fn, h1, h2⟩
  · exact .inr h
theorem KL_ok : KnownOK Tryz.prog ρ KL where
  dec := ⟨(fun r a b v h => by cases h), fun e b l c z h => by cases h⟩
  fn f _ := fn_ok f
  spec f s hs := by
    rcases pickS_inv (show pickS (Nat.beq f 191) (some spSorted) (pickS (Nat.beq f 192) (some spKeys) none) = some s from hs) with ⟨h1, h2⟩ | ⟨_, hs⟩
    · rw [Nat.eq_of_beq_eq_true h1]; cases h2; exact sorted_spec
    · rcases pickS_inv hs with ⟨h1, h2⟩ | ⟨_, hs⟩
      · rw [Nat.eq_of_beq_eq_true h1]; cases h2; exact keys_spec
      · cases hs
def isT (r : RV) : Bool := match r with | .ok (.bool .t) _ => true | _ => false
theorem isT_inv {r : RV} (h : isT r = true) : ∃ hh, r = .ok (.bool .t) hh := by
  unfold isT at h
  split at h
  · exact ⟨_, rfl⟩
  · cases h
theorem awake_spec (hrun : isT (run KL 100000 7 [] ⟨.lf, .h⟩) = true) : SpecOK Tryz.prog ρ 7 spT := by
  intro az h h' v e L m w args r hL hV
  unfold spT at e
  split at e
  · cases e
    have ha : args = #[] := by have : args.toList = [] := hV; simpa using this
    subst ha
    obtain ⟨hh, he⟩ := isT_inv hrun
    obtain ⟨h1, h2⟩ := run_ok (ρ := ρ) mixed KL_ok he (L := 0) (Rel.empty w) (Nat.zero_le _) (args := #[]) rfl
    refine ⟨h1, fun cs => ?_⟩
    obtain ⟨m', w', v', s, hv, hl⟩ := h2 cs
    have hv' : v' = .bool true := hv
    exact ⟨m, w', v', Rel.kept r s.size (fun c hc => s.framed c hc (fun p x hx => by cases hx)) s.tape, hv', hl⟩
  · cases e
theorem cell4_gen {c b z : Nat} {e : SS} {i l q : SI} (h : BlkR Tryz.prog ρ m w c b z (.row false [.sx e, .int .i64 i, .int .i64 l, .int .i64 q])) : Cell4 w c b z (e.den ρ) (i.den ρ) (l.den ρ) (q.den ρ) := by
  obtain ⟨cs, t, fr, h1, h2, h3, h4, _, h5⟩ := h
  refine ⟨cs, t, fr, h1, h2, h3, h4, ?_, ?_, ?_, ?_⟩
  · obtain ⟨v, hv, hV, _⟩ := h5 0 (.sx e) rfl; rw [Nat.add_zero] at hv; rw [hv, show v = _ from hV]
  · obtain ⟨v, hv, hV, _⟩ := h5 1 (.int .i64 i) rfl; rw [hv, show v = _ from hV]
  · obtain ⟨v, hv, hV, _⟩ := h5 2 (.int .i64 l) rfl; rw [hv, show v = _ from hV]
  · obtain ⟨v, hv, hV, _⟩ := h5 3 (.int .i64 q) rfl; rw [hv, show v = _ from hV]
theorem blanks_spec {e : SS} {D : Dec} (hD : DecOK ρ D) {ck : List Ck} {rest : List UInt8} (hS : (e.den ρ).data.toList = ck.flatMap Ck.bs ++ 110 :: rest) (hsz : (e.den ρ).size ≤ 1099511627776)
    (hrem : ∀ j : Nat, ck[j]? = some .rem → ck[j + 1]? = some .nl) (h20 : ρ.i 20 = (posOf ck).1) (h21 : ρ.i 21 = (posOf ck).2.1) (h22 : ρ.i 22 = (posOf ck).2.2) : SpecOK Tryz.prog ρ 42 (spBl e D) := by
  intro az h h' v e0 L m w args r hL hV
  unfold spBl at e0
  split at e0
  · rename_i p o
    cases hb : Nat.beq o 0 with
    | false => rw [hb] at e0; cases e0
    | true =>
      rw [hb] at e0
      obtain rfl : o = 0 := Nat.eq_of_beq_eq_true hb
      simp only at e0
      split at e0
      · rename_i cs hrow
        cases hq : avEqs cs [.sx e, .int .i64 (.nat 0), .int .i64 (.nat 1), .int .i64 (.nat 1)] with
        | false =>
          rw [hq] at e0
          exact run_ok mixed (K0_ok hD) e0 r hL hV
        | true =>
          rw [hq] at e0
          rw [avEqs_eq _ _ hq] at hrow
          cases e0
          obtain ⟨x, rfl, hx⟩ := vs_one hV
          obtain ⟨c, b, z, hm, rfl⟩ := hx
          obtain ⟨hc, hblk⟩ := r.blk p c b z hm
          rw [hrow] at hblk
          refine ⟨Proofs.enters_of Tryz.func42 (by kernel_rfl) bl_body _ _, fun cs => ?_⟩
          obtain ⟨w', hl, hcell, hsz', hoth, htp⟩ := blanks_ok hS hsz hrem hc (cell4_gen hblk) cs
          refine ⟨m, w', _, Rel.turned r hm (by rw [hrow]; simp) (by rw [hrow]; simp) hsz' hoth htp (of_cell4 hcell rfl h20 h21 h22), ⟨#[], rfl, rfl⟩, by rw [Nat.add_zero]; exact hl⟩
      · cases e0
  · cases e0
end
/-! ### what is so of each text -/
def hdB : List UInt8 → Nat | x :: _ => x.toNat | [] => 0
def okTx (j : Nat) : Bool := Nat.beq (strOfList (strBytes (txts j).1 (txts j).2.1).data.toList) (txts j).2.1 && (Nat.beq (hdB (strBytes (txts j).1 (txts j).2.1).data.toList) 110 && (Nat.beq (strBytes (txts j).1 (txts j).2.1).data.toList.length (txts j).1 && (Nat.ble 1 (txts j).1 && (Nat.ble (txts j).1 200 &&
  (match cols j with | some c => Nat.ble c 200 | none => true)))))
theorem okTx_all : ∀ j, j < 14 → okTx j = true
  | 0, _ => by kernel_rfl
  | 1, _ => by kernel_rfl
  | 2, _ => by kernel_rfl
  | 3, _ => by kernel_rfl
  | 4, _ => by kernel_rfl
  | 5, _ => by kernel_rfl
  | 6, _ => by kernel_rfl
  | 7, _ => by kernel_rfl
  | 8, _ => by kernel_rfl
  | 9, _ => by kernel_rfl
  | 10, _ => by kernel_rfl
  | 11, _ => by kernel_rfl
  | 12, _ => by kernel_rfl
  | 13, _ => by kernel_rfl
  | j + 14, h => absurd h (by omega)
/-- what the last piece asks of what the variables stand for -/
structure DVal (ρ : Val) (rem : Bool) (n k : Nat) : Prop where
  n20 : n ≤ 20
  k20 : k ≤ 20
  s0 : ρ.s 0 = bytesOf (ckOf rem n k)
  i11 : ρ.i 11 = n
  i12 : ρ.i 12 = k
  i20 : ρ.i 20 = (posOf (ckOf rem n k)).1
  i21 : ρ.i 21 = (posOf (ckOf rem n k)).2.1
  i22 : ρ.i 22 = (posOf (ckOf rem n k)).2.2
theorem okTx_inv {j : Nat} (h : okTx j = true) : strOfList (strBytes (txts j).1 (txts j).2.1).data.toList = (txts j).2.1 ∧ (∃ rest, (strBytes (txts j).1 (txts j).2.1).data.toList = 110 :: rest) ∧ (strBytes (txts j).1 (txts j).2.1).size = (txts j).1 ∧ 1 ≤ (txts j).1 ∧ (txts j).1 ≤ 200 ∧
    ∀ c, cols j = some c → c ≤ 200 := by
  simp only [okTx, Bool.and_eq_true] at h
  obtain ⟨h1, h2, h3, h4, h5, h6⟩ := h
  refine ⟨Nat.eq_of_beq_eq_true h1, ?_, ?_, Nat.le_of_ble_eq_true h4, Nat.le_of_ble_eq_true h5, fun c hc => ?_⟩
  · have h2' := Nat.eq_of_beq_eq_true h2
    cases hl : (strBytes (txts j).1 (txts j).2.1).data.toList with
    | nil => rw [hl] at h2'; cases h2'
    | cons x l =>
      rw [hl] at h2'
      have : x = 110 := UInt8.toNat_inj.1 h2'
      exact ⟨l, by rw [this]⟩
  · have := Nat.eq_of_beq_eq_true h3
    rw [Array.length_toList] at this; exact this
  · rw [hc] at h6; exact Nat.le_of_ble_eq_true h6
theorem dval_text {ρ : Val} {rem : Bool} {n k j : Nat} (hv : DVal ρ rem n k) (hj : okTx j = true) : (∃ rest, ((eX j).den ρ).data.toList = (ckOf rem n k).flatMap Ck.bs ++ 110 :: rest) ∧ ((eX j).den ρ).size = (posOf (ckOf rem n k)).1 + (txts j).1 ∧ (posOf (ckOf rem n k)).1 ≤ 50 ∧
    (ρ.s 0).size = (posOf (ckOf rem n k)).1 := by
  obtain ⟨_, ⟨rest, h2⟩, h3, h4, h5, _⟩ := okTx_inv hj
  have hpos : (posOf (ckOf rem n k)).1 = ((ckOf rem n k).flatMap Ck.bs).length := by
    have := foldl_len (ckOf rem n k) (0, 1, 1)
    simpa [posOf] using this
  have hle := ck_len rem n k
  have hs : (ρ.s 0).size = (posOf (ckOf rem n k)).1 := by rw [hv.s0, bytes_size, hpos]
  refine ⟨⟨rest, ?_⟩, ?_, ?_, hs⟩
  · show (ρ.s 0 ++ strBytes (txts j).1 (txts j).2.1).data.toList = _
    rw [ba_app, h2, hv.s0]; simp [bytesOf]
  · show (ρ.s 0 ++ strBytes (txts j).1 (txts j).2.1).size = _
    rw [ByteArray.size_append, h3, hs]
  · have := hv.n20; have := hv.k20; omega
theorem dEnd_ok {ρ : Val} {rem : Bool} {n k j : Nat} (hv : DVal ρ rem n k) (hj : okTx j = true) : DecOK ρ (dEnd j) := by
  obtain ⟨g1, g2, g3, g4, g5, g6⟩ := okTx_inv hj
  obtain ⟨_, hsz, hpos, hs0⟩ := dval_text hv hj
  have hlen : (SI.len (eX j)).den ρ = (((posOf (ckOf rem n k)).1 + (txts j).1 : Nat) : Int) := by show (((eX j).den ρ).size : Int) = _; rw [hsz]
  have hplus : ∀ (i a : Nat) (x : Nat), ρ.i i = (x : Int) → x ≤ 1000 → a ≤ 1000 → (plus (.var i) a).den ρ = ((x + a : Nat) : Int) := fun i a x hx h1 h2 => by
    show IntKind.i64.wrap (ρ.i i + (a : Int)) = _
    rw [hx, wrap_small64 (by omega) (by omega)]; omega
  obtain ⟨q1, q2⟩ := pos_ck rem n k
  have hn := hv.n20
  have hk := hv.k20
  constructor
  · intro r u v t hm
    simp only [dEnd, List.mem_append, List.mem_cons, List.mem_map, List.mem_range] at hm
    rcases hm with ⟨a, ha, he⟩ | ⟨a, ha, he⟩ | hm | hm | hm | hm | hm
    · cases he
      show decide ((plus (.var 20) a).den ρ < (SI.len (eX j)).den ρ) = _
      rw [hplus 20 a _ hv.i20 (by omega) (by omega), hlen]
      have : Nat.blt a (txts j).1 = decide (a < (txts j).1) := by rw [Bool.eq_iff_iff]; simp
      rw [this]
      exact decide_eq_decide.2 (by omega)
    · cases he
      show decide ((plus (.var 20) a).den ρ = (SI.len (eX j)).den ρ) = _
      rw [hplus 20 a _ hv.i20 (by omega) (by omega), hlen]
      have : Nat.beq a (txts j).1 = decide (a = (txts j).1) := by rw [Bool.eq_iff_iff]; simp
      rw [this]
      exact decide_eq_decide.2 (by omega)
    · cases hm
      show decide ((SI.len (eX j)).den ρ ≤ ((1099511627776 : Nat) : Int)) = true
      rw [hlen]; exact decide_eq_true (by omega)
    · cases hm
      show decide (((16384 : Nat) : Int) < (SI.len (eX j)).den ρ) = false
      rw [hlen]; exact decide_eq_false (by omega)
    · cases hm
      show decide (ρ.i 20 = (SI.len (eX j)).den ρ) = false
      rw [hlen, hv.i20]; exact decide_eq_false (by omega)
    · cases hm
      show decide (ρ.i 21 = (plus (.var 11) 1).den ρ) = true
      rw [hplus 11 1 _ hv.i11 (by omega) (by omega), hv.i21, q1]; exact decide_eq_true rfl
    · cases hc : cols j with
      | none => rw [hc] at hm; simp [dCol] at hm
      | some c =>
        rw [hc] at hm
        simp only [dCol, List.mem_singleton] at hm
        cases hm
        have hc2 := g6 c hc
        show decide ((plus (.var 22) c).den ρ = (plus (.var 12) (c + 1)).den ρ) = true
        rw [hplus 22 c _ hv.i22 (by omega) (by omega), hplus 12 (c + 1) _ hv.i12 (by omega) (by omega)]
        exact decide_eq_true (by omega)
  · intro e u l c z hm
    simp only [dEnd, List.mem_singleton] at hm
    cases hm
    have hex : ((eX j).den ρ).extract (posOf (ckOf rem n k)).1 ((posOf (ckOf rem n k)).1 + (txts j).1) = strBytes (txts j).1 (txts j).2.1 := by
      apply ba_ext
      show ((ρ.s 0 ++ strBytes (txts j).1 (txts j).2.1).extract (posOf (ckOf rem n k)).1 ((posOf (ckOf rem n k)).1 + (txts j).1)).data.toList = _
      have hl1 : (ρ.s 0).data.toList.length = (posOf (ckOf rem n k)).1 := by rw [Array.length_toList]; exact hs0
      have hl2 : (strBytes (txts j).1 (txts j).2.1).data.toList.length = (txts j).1 := by rw [Array.length_toList]; exact g3
      rw [Lib.extract_data, ba_app, Nat.add_sub_cancel_left, List.drop_left' hl1]
      rw [List.take_of_length_le (by omega)]
    refine ⟨(posOf (ckOf rem n k)).1, hv.i20, by rw [hsz]; exact Nat.le_refl _, by rw [hsz]; omega, by rw [hex]; exact g3, by rw [hex]; exact g1, fun _ => hsz.symm⟩
theorem KD_ok {ρ : Val} {rem : Bool} {n k j : Nat} (hawk : isT (run KL 100000 7 [] ⟨.lf, .h⟩) = true) (hv : DVal ρ rem n k) (hj : okTx j = true) : KnownOK Tryz.prog ρ (KD j) where
  dec := dEnd_ok hv hj
  fn f _ := fn_ok f
  spec f s hs := by
    rcases pickS_inv (show pickS (Nat.beq f 42) (some (spBl (eX j) (dEnd j))) (pickS (Nat.beq f 7) (some spT) (pickS (Nat.beq f 191) (some spSorted) (pickS (Nat.beq f 192) (some spKeys) none))) = some s from hs) with ⟨h1, h2⟩ | ⟨_, hs⟩
    · rw [Nat.eq_of_beq_eq_true h1]; cases h2
      obtain ⟨⟨rest, hS⟩, hsz, hpos, _⟩ := dval_text hv hj
      have := (okTx_inv hj).2.2.2.2.1
      have hb : SpecOK Tryz.prog ρ 42 (spBl (eX j) (dEnd j)) := blanks_spec (dEnd_ok hv hj) hS (by omega) (ck_rem rem n k) hv.i20 hv.i21 hv.i22
      exact @hb
    · rcases pickS_inv hs with ⟨h1, h2⟩ | ⟨_, hs⟩
      · rw [Nat.eq_of_beq_eq_true h1]; cases h2; exact awake_spec hawk
      · rcases pickS_inv hs with ⟨h1, h2⟩ | ⟨_, hs⟩
        · rw [Nat.eq_of_beq_eq_true h1]; cases h2; exact sorted_spec
        · rcases pickS_inv hs with ⟨h1, h2⟩ | ⟨_, hs⟩
          · rw [Nat.eq_of_beq_eq_true h1]; cases h2; exact keys_spec
          · cases hs
end SX
namespace SX
open Go Go.Proofs Go.Maps
set_option linter.unusedVariables false
set_option maxRecDepth 100000
theorem evs_snoc {cx : Cx} {y : XCode} : ∀ {l : List XCode} {env : TV} {h : H} {env' : TV} {h' : H}, evs cx (l ++ [y]) env h = .ok .normal env' h' → ∃ env₁ h₁, evs cx l env h = .ok .normal env₁ h₁ ∧ evC y cx env₁ h₁ = .ok .normal env' h'
  | [], env, h, env', h', e => by
    refine ⟨env, h, rfl, ?_⟩
    have e' : (match evC y cx env h with
      | .ok .normal env' h' => evs cx [] env' h'
      | .ok _ _ _ => .fail
      | r => r) = .ok .normal env' h' := e
    split at e'
    · rename_i env₁ h₁ he₁
      have : RC.ok .normal env₁ h₁ = .ok .normal env' h' := e'
      cases this; exact he₁
    · cases e'
    · rename_i hne
      exact (hne _ _ _ e').elim
  | c :: l, env, h, env', h', e => by
    have e' : (match evC c cx env h with
      | .ok .normal env' h' => evs cx (l ++ [y]) env' h'
      | .ok _ _ _ => .fail
      | r => r) = .ok .normal env' h' := e
    split at e'
    · rename_i env₁ h₁ he₁
      obtain ⟨env₂, h₂, g1, g2⟩ := evs_snoc e'
      refine ⟨env₂, h₂, ?_, g2⟩
      show (match evC c cx env h with
        | .ok .normal env' h' => evs cx l env' h'
        | .ok _ _ _ => .fail
        | r => r) = _
      rw [he₁]; exact g1
    · cases e'
    · rename_i hne
      exact (hne _ _ _ e').elim
theorem blkX {ρ ρ' : Val} {m m' : MM} {w w' : World} {c b z j : Nat} (hw : w'.heap[c]? = w.heap[c]?) (h : BlkR Tryz.prog ρ m w c b z (.row false (cellsX j))) : BlkR Tryz.prog ρ' m' w' c b z (.row false (cellsX j)) := by
  obtain ⟨cs, e, fr, h1, h2, h3, h4, h5, h6⟩ := h
  refine ⟨cs, e, fr, hw.trans h1, h2, h3, h4, h5, fun i a hi => ?_⟩
  obtain ⟨v, hv, hV, ho⟩ := h6 i a hi
  refine ⟨v, hv, ?_, ho⟩
  match i, hi with
  | 0, hi => cases hi; exact hV
  | 1, hi => cases hi; exact hV
  | 2, hi => cases hi; exact hV
  | i + 3, hi => cases hi
theorem DefOK.more {B : Nat} {w : World} {ds : List Deferred} {c b z : Nat} (hd : DefOK B (fun _ => none) w ds) {cells : Array Value} {e : TypeId} {fr : Nat × Nat} (hc : w.heap[c]? = some (.cells cells e fr)) : DefOK B (one .h (c, b, z)) w ds := by
  obtain ⟨h0, rs, h1, h2, h3⟩ := hd
  refine ⟨h0, rs, h1, h2, fun r hr => ?_⟩
  obtain ⟨g0, g1, g2, _⟩ := h3 r hr
  refine ⟨g0, g1, g2, fun p x hx => ?_⟩
  obtain ⟨_, rfl⟩ := one_inv hx
  intro he
  have he' : c = r := he
  rw [he', g2] at hc; cases hc
theorem live8 : fLv 8 = true := by kernel_rfl
theorem isRet_inv {e : Ex} (h : isRet e = true) : e = .ret := by cases e <;> first | rfl | cases h
noncomputable def fX4c : Code := .seq (.seq fr4 (.block 0 (.loop fL0))) (.seq (.seq fr10 (.block 2 (.loop fL2))) fR)
noncomputable def fX5c : Code := .seq (.seq fr10 (.block 2 (.loop fL2))) fR
theorem isX_inv {cells : List AV} {env : TV} {h : H} (hx : isX cells env h = true) : ∃ p, TV.get (Ps.ofNat 10) env = .ptr p 0 ∧ TB.get p h.t = .row false cells := by
  unfold isX at hx
  split at hx
  · rename_i p hp
    split at hx
    · rename_i cs hb
      rw [avEqs_eq _ _ hx] at hb
      exact ⟨p, hp, hb⟩
    · cases hx
  · cases hx
def valA (A B C : Nat) (rem : Bool) : Val := ⟨fun i => match i with | 0 => A | 1 => B | 2 => C | _ => 0, fun _ => ⟨#[]⟩, fun i => match i with | 3 => .bool rem | _ => undef⟩
theorem dWhich_ok (A B C : Nat) (rem : Bool) (hA : A < 256) : DecOK (valA A B C rem) (dWhich (A % 14)) := decOK_d (by
  intro x hx
  simp only [List.mem_singleton] at hx
  subst hx
  show decide ((IntKind.i64.wrap (A : Int)).tmod ((14 : Nat) : Int) = ((A % 14 : Nat) : Int)) = true
  rw [wrap_small64 (by omega) (by omega)]
  exact decide_eq_true rfl)
theorem nSI_den {ρ : Val} {i B : Nat} (h : ρ.i i = (B : Int)) : (nSI i).den ρ = ((B % 21 : Nat) : Int) := by
  show IntKind.i64.wrap ((ρ.i i).tmod ((21 : Nat) : Int)) = _
  rw [h]
  show IntKind.i64.wrap ((B % 21 : Nat) : Int) = _
  rw [wrap_small64 (by omega) (by omega)]
/-- the first pieces -/
theorem walkA {W : World} {A B C : Nat} {rem : Bool} (hA : A < 256) (fr : Frame) (hfr : fr.roundOf = none) (cs : List Frame) {a0 : Act} (h0 : a0.tmps.getD 0 undef = .int .u8 A) (h1 : a0.tmps.getD 1 undef = .int .u8 B) (h2 : a0.tmps.getD 2 undef = .int .u8 C) (h3 : a0.tmps.getD 3 undef = .bool rem)
    (hsz : Tryz.f3.ntmps ≤ a0.tmps.size) (hds : a0.defers = []) :
    ∃ c b z a w, (∀ ρ m, BlkR Tryz.prog ρ m w c b z (.row false (cellsX (A % 14)))) ∧ c < w.heap.size ∧ W.heap.size ≤ c ∧ FSt W (.pointer (some ⟨c, b, none⟩)) rem (B % 21) (C % 21) (bytesOf (ckL rem 0)) 14 0 w a w ∧ W.heap.size ≤ w.heap.size ∧
      (∀ j, j < W.heap.size → w.heap[j]? = W.heap[j]?) ∧ (w.tape = W.tape ∧ w.os = W.os ∧ w.output = W.output) ∧ Steps Tryz.prog (lone (fr.atR a0 [.code fAll]) cs W) (lone (fr.atR a [.code (.block 0 (.loop fL0)), .code fX5c]) cs w) := by
  obtain ⟨x, env', h', hev, hp, hout, hX⟩ := seenS_inv (okA_all (A % 14) (Nat.mod_lt _ (by omega)))
  have hx := isNormal_inv hp
  subst hx
  obtain ⟨p, hp10, hrow⟩ := isX_inv hX
  have hK := K0_ok (dWhich_ok A B C rem hA)
  obtain ⟨env₁, hh₁, he1, he2⟩ := evs_snoc (l := [y0, y1, y2, y3]) hev
  have hl : [y0, y1, y2, y3] = [fc0, fc1, fc2, fc3].map (trCode Tryz.prog fLv Tryz.f3.ntmps false) := by
    show _ = [fTr fc0, fTr fc1, fTr fc2, fTr fc3]
    rw [tr_c0, tr_c1, tr_c2, tr_c3]
  rw [hl] at he1
  have henv : EnvR (valA A B C rem) (fun _ => none) fLv envA a0.tmps := envL_R (by
    intro x hx
    simp only [List.mem_cons, List.not_mem_nil, or_false] at hx
    rcases hx with rfl | rfl | rfl | rfl
    · rw [h0]; rfl
    · rw [h1]; rfl
    · rw [h2]; rfl
    · rw [h3]; exact ⟨rfl, rfl⟩)
  obtain ⟨m₁, a₁, w₁, s₁, hv₁, hz₁, hd₁, hst₁⟩ := segs_ok mixed (cxN_ok mixed hK 100) f_lt fX4c [fc0, fc1, fc2, fc3] he1 (Rel.empty W) (L := 0) (Nat.zero_le _) henv hsz (B := W.heap.size) (by rw [hds]; exact DefOK.nil (Nat.le_refl _)) fr [] cs hfr
  have hcode := code_ok mixed (cxN_ok mixed hK 100) f_lt fr4 false
  rw [show trCode Tryz.prog fLv Tryz.f3.ntmps false fr4 = y4 from tr_r4] at hcode
  obtain ⟨m₂, a₂, w₂, s₂, hv₂, hz₂, hd₂, harr₂⟩ := hcode.run he2 s₁.rel (Nat.zero_le _) hv₁ (by rw [hz₁]; exact hsz) hd₁ fr [.code (.block 0 (.loop fL0)), .code fX5c] cs (fun _ => hfr)
  have s := s₁.trans s₂
  have h10 := hv₂ 10 live10
  rw [hp10] at h10
  obtain ⟨c, b, z, hm, hpv⟩ := h10
  obtain ⟨hc, hblk⟩ := s.rel.blk p c b z hm
  rw [hrow] at hblk
  have hnew : W.heap.size ≤ c := by
    rcases s.news p _ hm with hh | hh | ⟨q, y, hq, _⟩
    · cases hh
    · exact hh
    · cases hq
  have hV : ∀ t v, (t, v) ∈ outsA → fLv t = true → V (valA A B C rem) m₂ v (a₂.tmps.getD t undef) := fun t v ho hlv => by
    have h5 := hv₂ t hlv
    rw [show TV.get (Ps.ofNat t) env' = v from hout (t, v) ho] at h5
    exact h5
  refine ⟨c, b, z, a₂, w₂, fun ρ m => blkX rfl hblk, hc, hnew, ⟨?_, ?_, ?_, ?_, ?_, ?_, by rw [hz₂, hz₁]; exact hsz, hd₂.sub s.ext, Nat.le_refl _, fun j _ => rfl, ⟨rfl, rfl, rfl⟩⟩, s.size, fun j hj => s.framed j hj (fun p x hx => by cases hx), s.tape, ?_⟩
  · exact (hV 3 (.sym 3) (by simp [outsA]) live3).1
  · rw [hpv]; rfl
  · have := hV 11 (.int .i64 (nSI 1)) (by simp [outsA]) live11
    rw [show a₂.tmps.getD 11 undef = .int .i64 ((nSI 1).den _) from this, nSI_den (B := B) rfl]
  · have := hV 12 (.int .i64 (nSI 2)) (by simp [outsA]) live12
    rw [show a₂.tmps.getD 12 undef = .int .i64 ((nSI 2).den _) from this, nSI_den (B := C) rfl]
  · obtain ⟨t, ht, ht0, _⟩ := hV 13 (.str 0 0) (by simp [outsA]) live13
    rw [ht]
    have : t = bytesOf (ckL rem 0) := by
      apply ba_ext
      have h5 : t.data.toList = [] := by
        have h6 : t.data.toList.length = 0 := by rw [Array.length_toList]; exact ht0
        exact List.length_eq_zero_iff.1 h6
      rw [h5]; cases rem <;> rfl
    rw [this]
  · exact hV 14 (.int .i64 (.nat 0)) (by simp [outsA]) live14
  · exact Steps.trans hst₁ (.head stepR_seq (.head stepR_seq harr₂))
end SX
namespace SX
open Go Go.Proofs Go.Maps
set_option linter.unusedVariables false
set_option maxRecDepth 100000
/-- the two loops -/
theorem walkL {W w : World} {pv : Value} {rem : Bool} {n k : Nat} {a : Act} (hpv : pv.oneCell' = true) (hn : n ≤ 20) (hk : k ≤ 20) (fr : Frame) (hfr : fr.roundOf = none) (cs : List Frame) (I : FSt W pv rem n k (bytesOf (ckL rem 0)) 14 0 w a w) :
    ∃ a' w', FSt W pv rem n k (bytesOf (ckOf rem n k)) 15 k w a' w' ∧ Steps Tryz.prog (lone (fr.atR a [.code (.block 0 (.loop fL0)), .code fX5c]) cs w) (lone (fr.atR a' [.code fR]) cs w') := by
  obtain ⟨e, a₁, w₁, _, ⟨rfl, I₁⟩, harr⟩ := loop_arr (P := Tryz.prog) (c := fL0) (b := fr) (k := [.inBlock 0, .code fX5c]) (cs := cs) (fun i a w' => FSt W pv rem n k (bytesOf (ckL rem i)) 14 i w a w')
    (fun e a w' => e = .exit 0 ∧ FSt W pv rem n k (bytesOf (ckL rem n)) 14 n w a w') n
    (fun j a w' hj I => fst_line hpv hj hn hk I fr hfr (.inLoop fL0 :: [.inBlock 0, .code fX5c]) cs)
    (fun a w' I => by
      obtain ⟨a', w'', hI, h⟩ := fst_lineEnd hpv I fr hfr (.inLoop fL0 :: [.inBlock 0, .code fX5c]) cs
      exact ⟨.exit 0, a', w'', by simp, ⟨rfl, hI⟩, h⟩) I
  obtain ⟨todo, hs, hx⟩ := harr
  have hx' : exitTo 0 todo = some [.code fX5c] := hx.trans rfl
  obtain ⟨a₂, w₂, I₂, hs₂⟩ := fst_r10 hpv I₁ fr hfr [.code (.block 2 (.loop fL2)), .code fR] cs
  rw [← ckOf_zero] at I₂
  obtain ⟨e, a₃, w₃, _, ⟨rfl, I₃⟩, harr₃⟩ := loop_arr (P := Tryz.prog) (c := fL2) (b := fr) (k := [.inBlock 2, .code fR]) (cs := cs) (fun i a w' => FSt W pv rem n k (bytesOf (ckOf rem n i)) 15 i w a w')
    (fun e a w' => e = .exit 2 ∧ FSt W pv rem n k (bytesOf (ckOf rem n k)) 15 k w a w') k
    (fun j a w' hj I => fst_blank hpv hj hn hk I fr hfr (.inLoop fL2 :: [.inBlock 2, .code fR]) cs)
    (fun a w' I => by
      obtain ⟨a', w'', hI, h⟩ := fst_blankEnd hpv I fr hfr (.inLoop fL2 :: [.inBlock 2, .code fR]) cs
      exact ⟨.exit 2, a', w'', by simp, ⟨rfl, hI⟩, h⟩) I₂
  obtain ⟨todo₃, hs₃, hx₃⟩ := harr₃
  have hx₃' : exitTo 2 todo₃ = some [.code fR] := hx₃.trans rfl
  refine ⟨a₃, w₃, I₃, ?_⟩
  have e1 : Steps Tryz.prog (lone (fr.atR a [.code (.block 0 (.loop fL0)), .code fX5c]) cs w) (lone (fr.atR a₁ [.code fX5c]) cs w₁) := .head stepR_block (Steps.trans hs (.one (stepR_exit hx')))
  have e2 : Steps Tryz.prog (lone (fr.atR a₁ [.code fX5c]) cs w₁) (lone (fr.atR a₂ [.code (.block 2 (.loop fL2)), .code fR]) cs w₂) := .head stepR_seq (.head stepR_seq hs₂)
  have e3 : Steps Tryz.prog (lone (fr.atR a₂ [.code (.block 2 (.loop fL2)), .code fR]) cs w₂) (lone (fr.atR a₃ [.code fR]) cs w₃) := .head stepR_block (Steps.trans hs₃ (.one (stepR_exit hx₃')))
  exact e1.trans (e2.trans e3)
def valD (rem : Bool) (n k : Nat) : Val := ⟨fun i => match i with | 11 => n | 12 => k | 20 => (posOf (ckOf rem n k)).1 | 21 => (posOf (ckOf rem n k)).2.1 | 22 => (posOf (ckOf rem n k)).2.2 | _ => 0, fun _ => bytesOf (ckOf rem n k), fun _ => undef⟩
/-- **TopFaults** -/
theorem walk {W : World} {A B C : Nat} {rem : Bool} (hA : A < 256) (hokD : ∀ j, j < 14 → okD j = true) (hawk : isT (run KL 100000 7 [] ⟨.lf, .h⟩) = true) (cs : List Frame) :
    ∃ v w', (v = .bool true ∧ W.heap.size ≤ w'.heap.size ∧ (∀ j, j < W.heap.size → w'.heap[j]? = W.heap[j]?) ∧ (w'.tape = W.tape ∧ w'.os = W.os ∧ w'.output = W.output)) ∧
      Leaves Tryz.prog 3 #[.int .u8 A, .int .u8 B, .int .u8 C, .bool rem] W cs v w' := by
  let fr : Frame := { (default : Frame) with fn := 3, kind := .normal }
  let args : Array Value := #[.int .u8 A, .int .u8 B, .int .u8 C, .bool rem]
  let a0 : Act := { tmps := args ++ Array.replicate (Tryz.f3.ntmps - args.size) undef, defers := [] }
  have hget : ∀ i (v : Value), args[i]? = some v → a0.tmps.getD i undef = v := by
    intro i v hi
    have hlt : i < args.size := (Array.getElem?_eq_some_iff.1 hi).1
    show (args ++ Array.replicate (Tryz.f3.ntmps - args.size) undef).getD i undef = v
    rw [Array.getD_eq_getD_getElem?, Array.getElem?_append_left hlt, hi]; rfl
  have hj : A % 14 < 14 := Nat.mod_lt _ (by omega)
  have hn : B % 21 ≤ 20 := by have := Nat.mod_lt B (show 21 > 0 by omega); omega
  have hk : C % 21 ≤ 20 := by have := Nat.mod_lt C (show 21 > 0 by omega); omega
  obtain ⟨c, b, z, a₁, w₁, hblk, hc, hnew, I₁, g1, g2, g3, st₁⟩ := walkA (W := W) (A := A) (B := B) (C := C) (rem := rem) hA fr rfl cs (a0 := a0) (hget 0 _ rfl) (hget 1 _ rfl) (hget 2 _ rfl) (hget 3 _ rfl)
    (by show Tryz.f3.ntmps ≤ (args ++ Array.replicate (Tryz.f3.ntmps - args.size) undef).size
        rw [Array.size_append, Array.size_replicate]; omega) rfl
  generalize B % 21 = n at hn I₁
  generalize C % 21 = k at hk I₁
  obtain ⟨a₂, w₂, I₂, st₂⟩ := walkL rfl hn hk fr rfl cs I₁
  have hv : DVal (valD rem n k) rem n k := ⟨hn, hk, rfl, rfl, rfl, rfl, rfl, rfl⟩
  obtain ⟨x, env', h', hev, hp, hout, _⟩ := seenS_inv (hokD (A % 14) hj)
  have hx := isRet_inv hp
  subst hx
  have hcode := code_ok mixed (cxN_ok mixed (KD_ok hawk hv (okTx_all _ hj)) 1000) f_lt fR false
  rw [show trCode Tryz.prog fLv Tryz.f3.ntmps false fR = yR from tr_R] at hcode
  have hc2 : c < w₂.heap.size := Nat.lt_of_lt_of_le hc I₂.big
  have hblk2 : BlkR Tryz.prog (valD rem n k) (one .h (c, b, z)) w₂ c b z (.row false (cellsX (A % 14))) := blkX (I₂.oth c hc) (hblk (valD rem n k) (one .h (c, b, z)))
  have hdef : DefOK W.heap.size (one .h (c, b, z)) w₂ a₂.defers := by
    obtain ⟨cells, e, f, hcell, _⟩ := hblk2
    exact I₂.defers.more hcell
  have henv : EnvR (valD rem n k) (one .h (c, b, z)) fLv envD a₂.tmps := envL_R (by
    intro x hx
    simp only [List.mem_cons, List.not_mem_nil, or_false] at hx
    rcases hx with rfl | rfl | rfl | rfl
    · rw [I₂.t10]; exact ⟨c, b, z, one_same .., rfl⟩
    · rw [I₂.t11]; rfl
    · rw [I₂.t12]; rfl
    · rw [I₂.t13]; rfl)
  obtain ⟨m₃, a₃, w₃, s₃, hv₃, hz₃, hd₃, harr₃⟩ := hcode.run hev (Rel.single hc2 hblk2) (L := 0) (Nat.zero_le _) henv I₂.size hdef fr [] cs (fun _ => rfl)
  have h8 : a₃.tmps.getD 8 undef = .bool true := by
    have h5 := hv₃ 8 live8
    rw [show TV.get (Ps.ofNat 8) env' = .bool .t from hout (8, .bool .t) (by simp)] at h5
    exact h5
  have hall : Arr Tryz.prog (lone (fr.atR a0 [.code fAll]) cs W) fr [] cs .ret a₃ w₃ := .of_steps (st₁.trans st₂) harr₃
  obtain ⟨w₄, h1, h2, h3, h4⟩ := leaves_of (P := Tryz.prog) (f := 3) (w := W) (args := args) Tryz.func3 f_body (.inr rfl) hd₃ (v := .bool true) hall (fun w₅ _ _ => by
    have hr3 : Tryz.f3.results = #[.tmp 8] := by kernel_rfl
    have := run_results (P := Tryz.prog) (w := w₅) (fn := Tryz.f3) (tmps := a₃.tmps) (g := fun _ => .bool true) (by
      rw [hr3]; intro x hx; simp at hx; subst hx
      show (pure (a₃.tmps.getD 8 undef) : Sem Value).run Tryz.prog w₅ = _
      rw [h8]; rfl)
    rw [hr3] at this
    exact this)
  refine ⟨_, w₄, ⟨rfl, ?_, fun j hj => ?_, ?_⟩, h1⟩
  · rw [h2]; exact Nat.le_trans g1 (Nat.le_trans I₂.big s₃.size)
  · rw [h3 j hj, s₃.framed j (Nat.lt_of_lt_of_le hj (Nat.le_trans g1 I₂.big)) (fun p x hx => by obtain ⟨_, he⟩ := one_inv hx; rw [he]; show c ≠ j; omega), I₂.oth j (Nat.lt_of_lt_of_le hj g1), g2 j hj]
  · exact ⟨h4.1.trans (s₃.tape.1.trans (I₂.tp.1.trans g3.1)), h4.2.1.trans (s₃.tape.2.1.trans (I₂.tp.2.1.trans g3.2.1)), h4.2.2.trans (s₃.tape.2.2.trans (I₂.tp.2.2.trans g3.2.2))⟩
end SX
end
