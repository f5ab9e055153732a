/-
  An executor of code over what is known of values and of the heap, in part by name: what it does.
-/
import GoSem.Core.View
import GoSem.Core.Region
set_option linter.all false
noncomputable section
namespace SX
open Go

/-! positives and tries -/
inductive Ps where | h | o (p : Ps) | i (p : Ps)
def Ps.succ : Ps → Ps | .h => .o .h | .o p => .i p | .i p => .o p.succ
def Ps.ofNatF : Nat → Nat → Ps
  | 0, _ => .h
  | f + 1, n => match Nat.ble n 1 with
    | true => .h
    | false => match Nat.beq (Nat.mod n 2) 0 with
      | true => .o (ofNatF f (Nat.div n 2))
      | false => .i (ofNatF f (Nat.div n 2))
def Ps.ofNat (n : Nat) : Ps := Ps.ofNatF (Nat.succ n) (Nat.succ n)
def Ps.beq : Ps → Ps → Bool
  | .h, .h => true | .o p, .o q => p.beq q | .i p, .i q => p.beq q | _, _ => false
def Ps.toNat : Ps → Nat | .h => 1 | .o p => 2 * p.toNat | .i p => 2 * p.toNat + 1

/-- a text: known, a letter, or one behind the other -/
inductive SS where
  | lit (len code : Nat) | var (i : Nat) | cat (a b : SS)
inductive Rl where | lt | le | eq
def Rl.beq : Rl → Rl → Bool | .lt, .lt => true | .le, .le => true | .eq, .eq => true | _, _ => false
/-- a number: known ('neg n' is -(n+1)), a letter, or reckoned of such -/
inductive SI where
  | nat (n : Nat) | neg (n : Nat) | var (i : Nat)
  | bin (op : BinOp) (k : IntKind) (a b : SI)
  | conv (k : IntKind) (a : SI)
  | len (e : SS)
/-- a truth: known, or whether numbers are so -/
inductive SB where
  | t | f
  | cmp (pol : Bool) (r : Rl) (a b : SI)

inductive AV where
  | bool (b : SB)
  | int (k : IntKind) (n : SI)
  | str (len code : Nat)
  | sx (e : SS)
  | ptr (b : Ps) (o : Nat)
  | nilp
  | slice (b : Ps) (o es len cap : Nat) (ex : Bool)
  | nils
  | map (b : Ps) | nilm
  | func (f : Nat) (first caps : List AV)
  | yield (l : Ps)
  | nilf
  | iface (t : Nat) (v : AV) | nili
  | agg (cs : List AV)
  | tup (vs : List AV)
  | sym (i : Nat)
  | unk
  | bot
inductive TV where | lf | nd (l : TV) (v : AV) (r : TV)

/-- an operand: what an operation of the region made (the last one: 0), a variable, a constant -/
inductive Opd where | loc (i : Nat) | env (p : Ps) | const (v : AV)
/-- of what kind two values are that are held against one another; nil: one of them is nil -/
inductive EqK where | num | str | bool | nilp | nils | nilm | nilf | nili
inductive XOp where
  | mv (a : Opd)
  | pick (c a b : Opd)
  | alloc (z : List AV)
  | box (a : Opd)
  | build (z : List AV) (parts : List (Nat × Nat × Opd))
  | buildSlice (es len : Nat) (z : List AV) (parts : List (Nat × Nat × Opd))
  | load1 (a : Opd)
  | loadN (n : Nat) (a : Opd)
  | store (n : Nat) (a v : Opd)
  | nilCheck (a : Opd)
  | arith (op : BinOp) (a b : Opd)      -- add sub mul
  | quo (a b : Opd) | rem (a b : Opd)
  | bits (op : BinOp) (a b : Opd)
  | shl (a b : Opd) | shr (a b : Opd)
  | lt (neg : Bool) (a b : Opd)         -- neg: not (a < b)
  | ltS (neg : Bool) (a b : Opd)
  | cat (a b : Opd)
  | eq (neg : Bool) (k : EqK) (a b : Opd)
  | eqA (neg : Bool) (ks : List EqK) (a b : Opd)
  | neg (a : Opd)
  | not (a : Opd)
  | conv (k : IntKind) (a : Opd)
  | toStr (a : Opd)
  | fieldAddr (off : Nat) (a : Opd)
  | field1 (off : Nat) (a : Opd)
  | fieldN (off n : Nat) (a : Opd)
  | indexArr (len es : Nat) (a i : Opd)
  | indexSl (es : Nat) (a i : Opd)
  | indexStr (a i : Opd)
  | indexAgg1 (len : Nat) (a i : Opd)
  | indexAggN (len es : Nat) (a i : Opd)
  | sliceStr (a : Opd) (lo hi : Option Opd)
  | sliceSl (es : Nat) (a : Opd) (lo hi mx : Option Opd)
  | sliceArr (n es : Nat) (a : Opd) (lo hi mx : Option Opd)
  | mkFunc (f : Nat) (first caps : List Opd)
  | mkMap
  | mkSlice (es : Nat) (z : List AV) (len cap : Opd)
  | mkIface (t : Nat) (a : Opd)
  | lookup (z : AV) (m k : Opd)
  | lookupOk (z : AV) (m k : Opd)
  | mapUpd (m k v : Opd)
  | lenS (a : Opd) | lenL (a : Opd) | lenM (a : Opd)
  | cap (a : Opd)
  | append (es : Nat) (a b : Opd)
  | appendZ (es : Nat) (z : List AV) (a n : Opd)
  | copy (es : Nat) (a b : Opd)
  | minmax (mx : Bool) (a b : Opd)
  | clearMap (a : Opd)
  | clearSl (z : List AV) (a : Opd)
  | extract (i : Nat) (a : Opd)
  | call (f : Nat) (args : List Opd)
  | callV (f : Opd) (args : List Opd)
  | bad
inductive XItem where
  | op (x : XOp)
  | gop (g : Opd) (want : Bool) (x : XOp)
  | chk (i : Nat) (x : XOp)
inductive XCode where
  | skip
  | region (items : List XItem) (ws : List (Ps × Opd))
  | seq (a b : XCode)
  | cond (c : Opd) (a b : XCode)
  | block (id : Nat) (b : XCode)
  | loop (b : XCode)
  | rangeF (f : Opd) (params : List Ps) (as body : XCode)
  | exit (id : Nat)
  | scope (all cur : XCode)
  | label (l : Nat)
  | goto (l : Nat)
  | ret
  | bad
/-- a result: a variable; what it leads to: one cell; n cells -/
inductive XRes where | v (p : Ps) | c1 (p : Ps) | cN (p : Ps) (n : Nat)
structure XFunc where
  params : List Ps
  results : List XRes
  body : XCode

inductive Ex where | normal | exit (id : Nat) | goto (l : Nat) | ret
inductive Blk where
  | dead
  | row (ro : Bool) (cells : List AV)
  | map (es : List (AV × AV))
  | loop (st : Nat) (pending : Ex) (env : TV) (params : List Ps) (as body : XCode)
inductive TB where | lf | nd (l : TB) (v : Blk) (r : TB)
structure H where
  t : TB
  next : Ps
inductive RV where
  | fail | need (r : Rl) (a b : SI) | ok (v : AV) (h : H)
inductive RC where
  | fail | need (r : Rl) (a b : SI) | ok (e : Ex) (env : TV) (h : H)
inductive RI where
  | fail | need (r : Rl) (a b : SI) | ok (loc : List AV) (h : H)
/-- what is known: of numbers held against one another; of a text's bytes from a place on (the last one: whether these are all up to its end) -/
structure Dec where
  d : List (Rl × SI × SI × Bool)
  t : List (SS × SI × Nat × Nat × Bool)

/-! ### tries -/
noncomputable def TV.get (p : Ps) : TV → AV :=
  Ps.rec (motive := fun _ => TV → AV)
    (fun t => TV.rec (motive := fun _ => AV) .bot (fun _ v _ _ _ => v) t)
    (fun _ ih t => TV.rec (motive := fun _ => AV) .bot (fun l _ _ _ _ => ih l) t)
    (fun _ ih t => TV.rec (motive := fun _ => AV) .bot (fun _ _ r _ _ => ih r) t) p
noncomputable def TV.set (v : AV) (p : Ps) : TV → TV :=
  Ps.rec (motive := fun _ => TV → TV)
    (fun t => TV.rec (motive := fun _ => TV) (.nd .lf v .lf) (fun l _ r _ _ => .nd l v r) t)
    (fun _ ih t => TV.rec (motive := fun _ => TV) (.nd (ih .lf) .bot .lf) (fun l x r _ _ => .nd (ih l) x r) t)
    (fun _ ih t => TV.rec (motive := fun _ => TV) (.nd .lf .bot (ih .lf)) (fun l x r _ _ => .nd l x (ih r)) t) p
noncomputable def TB.get (p : Ps) : TB → Blk :=
  Ps.rec (motive := fun _ => TB → Blk)
    (fun t => TB.rec (motive := fun _ => Blk) .dead (fun _ v _ _ _ => v) t)
    (fun _ ih t => TB.rec (motive := fun _ => Blk) .dead (fun l _ _ _ _ => ih l) t)
    (fun _ ih t => TB.rec (motive := fun _ => Blk) .dead (fun _ _ r _ _ => ih r) t) p
noncomputable def TB.set (v : Blk) (p : Ps) : TB → TB :=
  Ps.rec (motive := fun _ => TB → TB)
    (fun t => TB.rec (motive := fun _ => TB) (.nd .lf v .lf) (fun l _ r _ _ => .nd l v r) t)
    (fun _ ih t => TB.rec (motive := fun _ => TB) (.nd (ih .lf) .dead .lf) (fun l x r _ _ => .nd (ih l) x r) t)
    (fun _ ih t => TB.rec (motive := fun _ => TB) (.nd .lf .dead (ih .lf)) (fun l x r _ _ => .nd l x (ih r)) t) p
def H.alloc (h : H) (b : Blk) : H := ⟨TB.set b h.next h.t, h.next.succ⟩
def H.put (h : H) (p : Ps) (b : Blk) : H := ⟨TB.set b p h.t, h.next⟩

/-! ### lists -/
noncomputable def getL (l : List AV) : Nat → AV :=
  List.rec (motive := fun _ => Nat → AV) (fun _ => .bot) (fun a _ ih n => Nat.rec (motive := fun _ => AV) a (fun n' _ => ih n') n) l
noncomputable def dropL (n : Nat) : List AV → List AV :=
  Nat.rec (motive := fun _ => List AV → List AV) (fun l => l) (fun _ ih l => List.rec (motive := fun _ => List AV) [] (fun _ t _ => ih t) l) n
noncomputable def takeL (n : Nat) : List AV → List AV :=
  Nat.rec (motive := fun _ => List AV → List AV) (fun _ => []) (fun _ ih l => List.rec (motive := fun _ => List AV) [] (fun a t _ => a :: ih t) l) n
/-- whether there are so many -/
noncomputable def hasL (n : Nat) : List AV → Bool :=
  Nat.rec (motive := fun _ => List AV → Bool) (fun _ => true) (fun _ ih l => List.rec (motive := fun _ => Bool) false (fun _ t _ => ih t) l) n
noncomputable def lenL (l : List AV) : Nat := List.rec (motive := fun _ => Nat) 0 (fun _ _ ih => Nat.succ ih) l
/-- the first cells become others -/
noncomputable def overL (vs : List AV) : List AV → List AV :=
  List.rec (motive := fun _ => List AV → List AV) (fun l => l) (fun v _ ih l => List.rec (motive := fun _ => List AV) [] (fun _ t _ => v :: ih t) l) vs
noncomputable def putL (o : Nat) (vs : List AV) : List AV → List AV :=
  Nat.rec (motive := fun _ => List AV → List AV) (overL vs) (fun _ ih l => List.rec (motive := fun _ => List AV) [] (fun a t _ => a :: ih t) l) o
noncomputable def appL (a b : List AV) : List AV := List.rec (motive := fun _ => List AV) b (fun x _ ih => x :: ih) a
noncomputable def repL (z : List AV) (n : Nat) : List AV := Nat.rec (motive := fun _ => List AV) [] (fun _ ih => appL z ih) n

/-! ### numbers -/
noncomputable def SI.ofInt (n : Int) : SI := Int.rec (motive := fun _ => SI) (fun n => .nat n) (fun n => .neg n) n
/-- the highest number of a kind -/
noncomputable def topN (k : IntKind) : Nat := IntKind.rec (motive := fun _ => Nat) 127 32767 2147483647 9223372036854775807 255 65535 4294967295 18446744073709551615 k
noncomputable def wrapN (k : IntKind) (n : Nat) : SI := Bool.rec (motive := fun _ => SI) (.ofInt (k.wrap n)) (.nat n) (Nat.ble n (topN k))
def wrapI (k : IntKind) (n : Int) : SI := .ofInt (k.wrap n)
/-- both known: their function; else the sign -/
noncomputable def onNat (β : Type) (d : β) (f : Nat → β) (g : Int → β) (a : SI) : β := SI.rec (motive := fun _ => β) f (fun n => g (.negSucc n)) (fun _ => d) (fun _ _ _ _ _ _ => d) (fun _ _ _ => d) (fun _ => d) a
def on2 (β : Type) (d : β) (f : Nat → Nat → β) (g : Int → Int → β) (a b : SI) : β :=
  onNat β d (fun m => onNat β d (fun n => f m n) (fun n => g (.ofNat m) n) b) (fun m => onNat β d (fun n => g m (.ofNat n)) (fun n => g m n) b) a
noncomputable def sbOf (b : Bool) : SB := Bool.rec (motive := fun _ => SB) .f .t b
def sbLe (a b : SI) : SB := on2 SB (.cmp true .le a b) (fun m n => sbOf (Nat.ble m n)) (fun m n => sbOf (decide (m ≤ n))) a b
def sbLt (a b : SI) : SB := on2 SB (.cmp true .lt a b) (fun m n => sbOf (Nat.ble (Nat.succ m) n)) (fun m n => sbOf (decide (m < n))) a b
def sbEq (a b : SI) : SB := on2 SB (.cmp true .eq a b) (fun m n => sbOf (Nat.beq m n)) (fun m n => sbOf (decide (m = n))) a b
noncomputable def SB.not (s : SB) : SB := SB.rec (motive := fun _ => SB) .f .t (fun p r a b => .cmp (Bool.not p) r a b) s
noncomputable def opNo (o : BinOp) : Nat := BinOp.rec (motive := fun _ => Nat) 0 1 2 3 4 5 6 7 8 9 10 11 12 13 14 15 16 o
noncomputable def kindNo (k : IntKind) : Nat := IntKind.rec (motive := fun _ => Nat) 0 1 2 3 4 5 6 7 k
def opBeq (a b : BinOp) : Bool := Nat.beq (opNo a) (opNo b)
def kindBeq (a b : IntKind) : Bool := Nat.beq (kindNo a) (kindNo b)
def SS.beq : SS → SS → Bool
  | .lit a b, .lit c d => Nat.beq a c && Nat.beq b d
  | .var a, .var b => Nat.beq a b
  | .cat a b, .cat c d => a.beq c && b.beq d
  | _, _ => false
def SI.beq : SI → SI → Bool
  | .nat a, .nat b => Nat.beq a b
  | .neg a, .neg b => Nat.beq a b
  | .var a, .var b => Nat.beq a b
  | .bin o k a b, .bin p l c d => opBeq o p && kindBeq k l && a.beq c && b.beq d
  | .conv k a, .conv l b => kindBeq k l && a.beq b
  | .len a, .len b => a.beq b
  | _, _ => false
def findL (r : Rl) (a b : SI) : List (Rl × SI × SI × Bool) → Option Bool
  | [] => none
  | (r', a', b', v) :: d => if Rl.beq r r' && a.beq a' && b.beq b' then some v else findL r a b d
def findD (r : Rl) (a b : SI) (D : Dec) : Option Bool := findL r a b D.d
/-- a number that is known -/
def knownL (a : SI) : List (Rl × SI × SI × Bool) → SI
  | [] => a
  | (.eq, a', .nat n, true) :: d => if a.beq a' then .nat n else knownL a d
  | _ :: d => knownL a d
def knownE (D : Dec) (a : SI) : SI := knownL a D.d
/-- goes on by a truth -/
noncomputable def ifV (D : Dec) (s : SB) (x y : RV) : RV :=
  SB.rec (motive := fun _ => RV) x y (fun p r a b => match findD r a b D with | some v => (match v == p with | true => x | false => y) | none => .need r a b) s
noncomputable def ifC (D : Dec) (s : SB) (x y : RC) : RC :=
  SB.rec (motive := fun _ => RC) x y (fun p r a b => match findD r a b D with | some v => (match v == p with | true => x | false => y) | none => .need r a b) s
noncomputable def ifI (D : Dec) (s : SB) (x y : RI) : RI :=
  SB.rec (motive := fun _ => RI) x y (fun p r a b => match findD r a b D with | some v => (match v == p with | true => x | false => y) | none => .need r a b) s
/-- yes ¦ no -/
noncomputable def bV (b : Bool) (x y : RV) : RV := Bool.rec (motive := fun _ => RV) y x b

/-! ### strings: a length and a number, the lowest byte first -/
def strByte (code i : Nat) : Nat := Nat.mod (Nat.shiftRight code (Nat.mul 8 i)) 256
def strSub (code lo hi : Nat) : Nat := Nat.mod (Nat.shiftRight code (Nat.mul 8 lo)) (Nat.shiftLeft 1 (Nat.mul 8 (Nat.sub hi lo)))
def strCat (l1 c1 c2 : Nat) : Nat := Nat.add c1 (Nat.shiftLeft c2 (Nat.mul 8 l1))
def strOfList : List UInt8 → Nat
  | [] => 0
  | b :: l => Nat.add b.toNat (Nat.mul 256 (strOfList l))
def strLt (l1 c1 l2 c2 : Nat) : Nat → Nat → Bool
  | 0, _ => false
  | f + 1, i => match Nat.ble l2 i with
    | true => false
    | false => match Nat.ble l1 i with
      | true => true
      | false => match Nat.ble (Nat.succ (strByte c1 i)) (strByte c2 i) with
        | true => true
        | false => match Nat.beq (strByte c1 i) (strByte c2 i) with
          | true => strLt l1 c1 l2 c2 f (i + 1)
          | false => false

/-! ### what a value is -/
noncomputable def onPtr (k : Ps → Nat → RV) (v : AV) : RV :=
  AV.rec (motive_1 := fun _ => RV) (motive_2 := fun _ => RV) (fun _ => .fail) (fun _ _ => .fail) (fun _ _ => .fail) (fun _ => .fail) (fun b o => k b o) (.fail) (fun _ _ _ _ _ _ => .fail) (.fail) (fun _ => .fail) (.fail) (fun _ _ _ _ _ => .fail) (fun _ => .fail) (.fail) (fun _ _ _ => .fail) (.fail) (fun _ _ => .fail) (fun _ _ => .fail) (fun _ => .fail) (.fail) (.fail) (.fail) (fun _ _ _ _ => .fail) v
noncomputable def onBool (k : SB → RV) (v : AV) : RV :=
  AV.rec (motive_1 := fun _ => RV) (motive_2 := fun _ => RV) (fun b => k b) (fun _ _ => .fail) (fun _ _ => .fail) (fun _ => .fail) (fun _ _ => .fail) (.fail) (fun _ _ _ _ _ _ => .fail) (.fail) (fun _ => .fail) (.fail) (fun _ _ _ _ _ => .fail) (fun _ => .fail) (.fail) (fun _ _ _ => .fail) (.fail) (fun _ _ => .fail) (fun _ _ => .fail) (fun _ => .fail) (.fail) (.fail) (.fail) (fun _ _ _ _ => .fail) v
noncomputable def onInt (k : IntKind → SI → RV) (v : AV) : RV :=
  AV.rec (motive_1 := fun _ => RV) (motive_2 := fun _ => RV) (fun _ => .fail) (fun l n => k l n) (fun _ _ => .fail) (fun _ => .fail) (fun _ _ => .fail) (.fail) (fun _ _ _ _ _ _ => .fail) (.fail) (fun _ => .fail) (.fail) (fun _ _ _ _ _ => .fail) (fun _ => .fail) (.fail) (fun _ _ _ => .fail) (.fail) (fun _ _ => .fail) (fun _ _ => .fail) (fun _ => .fail) (.fail) (.fail) (.fail) (fun _ _ _ _ => .fail) v
noncomputable def onIdx (k : Nat → RV) (v : AV) : RV :=
  AV.rec (motive_1 := fun _ => RV) (motive_2 := fun _ => RV) (fun _ => .fail) (fun _ n => onNat RV .fail k (fun _ => .fail) n) (fun _ _ => .fail) (fun _ => .fail) (fun _ _ => .fail) (.fail) (fun _ _ _ _ _ _ => .fail) (.fail) (fun _ => .fail) (.fail) (fun _ _ _ _ _ => .fail) (fun _ => .fail) (.fail) (fun _ _ _ => .fail) (.fail) (fun _ _ => .fail) (fun _ _ => .fail) (fun _ => .fail) (.fail) (.fail) (.fail) (fun _ _ _ _ => .fail) v
noncomputable def onStr (k : Nat → Nat → RV) (v : AV) : RV :=
  AV.rec (motive_1 := fun _ => RV) (motive_2 := fun _ => RV) (fun _ => .fail) (fun _ _ => .fail) (fun l c => k l c) (fun _ => .fail) (fun _ _ => .fail) (.fail) (fun _ _ _ _ _ _ => .fail) (.fail) (fun _ => .fail) (.fail) (fun _ _ _ _ _ => .fail) (fun _ => .fail) (.fail) (fun _ _ _ => .fail) (.fail) (fun _ _ => .fail) (fun _ _ => .fail) (fun _ => .fail) (.fail) (.fail) (.fail) (fun _ _ _ _ => .fail) v
noncomputable def onStrX (k : Nat → Nat → RV) (x : SS → RV) (v : AV) : RV :=
  AV.rec (motive_1 := fun _ => RV) (motive_2 := fun _ => RV) (fun _ => .fail) (fun _ _ => .fail) (fun l c => k l c) (fun e => x e) (fun _ _ => .fail) (.fail) (fun _ _ _ _ _ _ => .fail) (.fail) (fun _ => .fail) (.fail) (fun _ _ _ _ _ => .fail) (fun _ => .fail) (.fail) (fun _ _ _ => .fail) (.fail) (fun _ _ => .fail) (fun _ _ => .fail) (fun _ => .fail) (.fail) (.fail) (.fail) (fun _ _ _ _ => .fail) v
noncomputable def onAgg (k : List AV → RV) (v : AV) : RV :=
  AV.rec (motive_1 := fun _ => RV) (motive_2 := fun _ => RV) (fun _ => .fail) (fun _ _ => .fail) (fun _ _ => .fail) (fun _ => .fail) (fun _ _ => .fail) (.fail) (fun _ _ _ _ _ _ => .fail) (.fail) (fun _ => .fail) (.fail) (fun _ _ _ _ _ => .fail) (fun _ => .fail) (.fail) (fun _ _ _ => .fail) (.fail) (fun cs _ => k cs) (fun _ _ => .fail) (fun _ => .fail) (.fail) (.fail) (.fail) (fun _ _ _ _ => .fail) v
noncomputable def onTup (k : List AV → RV) (v : AV) : RV :=
  AV.rec (motive_1 := fun _ => RV) (motive_2 := fun _ => RV) (fun _ => .fail) (fun _ _ => .fail) (fun _ _ => .fail) (fun _ => .fail) (fun _ _ => .fail) (.fail) (fun _ _ _ _ _ _ => .fail) (.fail) (fun _ => .fail) (.fail) (fun _ _ _ _ _ => .fail) (fun _ => .fail) (.fail) (fun _ _ _ => .fail) (.fail) (fun _ _ => .fail) (fun cs _ => k cs) (fun _ => .fail) (.fail) (.fail) (.fail) (fun _ _ _ _ => .fail) v
noncomputable def onSlice (z : RV) (k : Ps → Nat → Nat → Nat → Nat → Bool → RV) (v : AV) : RV :=
  AV.rec (motive_1 := fun _ => RV) (motive_2 := fun _ => RV) (fun _ => .fail) (fun _ _ => .fail) (fun _ _ => .fail) (fun _ => .fail) (fun _ _ => .fail) (.fail) (fun b o s l c x => k b o s l c x) (z) (fun _ => .fail) (.fail) (fun _ _ _ _ _ => .fail) (fun _ => .fail) (.fail) (fun _ _ _ => .fail) (.fail) (fun _ _ => .fail) (fun _ _ => .fail) (fun _ => .fail) (.fail) (.fail) (.fail) (fun _ _ _ _ => .fail) v
noncomputable def onMap (z : RV) (k : Ps → RV) (v : AV) : RV :=
  AV.rec (motive_1 := fun _ => RV) (motive_2 := fun _ => RV) (fun _ => .fail) (fun _ _ => .fail) (fun _ _ => .fail) (fun _ => .fail) (fun _ _ => .fail) (.fail) (fun _ _ _ _ _ _ => .fail) (.fail) (fun b => k b) (z) (fun _ _ _ _ _ => .fail) (fun _ => .fail) (.fail) (fun _ _ _ => .fail) (.fail) (fun _ _ => .fail) (fun _ _ => .fail) (fun _ => .fail) (.fail) (.fail) (.fail) (fun _ _ _ _ => .fail) v
noncomputable def onCells (k : List AV → RV) (v : AV) : RV :=
  AV.rec (motive_1 := fun _ => RV) (motive_2 := fun _ => RV) (fun _ => k [v]) (fun _ _ => k [v]) (fun _ _ => k [v]) (fun _ => k [v]) (fun _ _ => k [v]) (k [v]) (fun _ _ _ _ _ _ => k [v]) (k [v]) (fun _ => k [v]) (k [v]) (fun _ _ _ _ _ => k [v]) (fun _ => k [v]) (k [v]) (fun _ _ _ => k [v]) (k [v]) (fun cs _ => k cs) (fun vs _ => .fail) (fun _ => k [v]) (k [v]) (.fail) (k [v]) (fun _ _ _ _ => k [v]) v
noncomputable def okPtr (h : H) (v : AV) : RV :=
  AV.rec (motive_1 := fun _ => RV) (motive_2 := fun _ => RV) (fun _ => .fail) (fun _ _ => .fail) (fun _ _ => .fail) (fun _ => .fail) (fun b o => .ok v h) (.fail) (fun _ _ _ _ _ _ => .fail) (.fail) (fun _ => .fail) (.fail) (fun f a c _ _ => .ok v h) (fun l => .ok v h) (.fail) (fun t w _ => .ok v h) (.fail) (fun _ _ => .fail) (fun _ _ => .fail) (fun _ => .fail) (.fail) (.fail) (.fail) (fun _ _ _ _ => .fail) v
noncomputable def onRow (k : Bool → List AV → RV) (b : Blk) : RV :=
  Blk.rec (motive := fun _ => RV) .fail k (fun _ => .fail) (fun _ _ _ _ _ _ => .fail) b
noncomputable def onEnts (k : List (AV × AV) → RV) (b : Blk) : RV :=
  Blk.rec (motive := fun _ => RV) .fail (fun _ _ => .fail) k (fun _ _ _ _ _ _ => .fail) b
noncomputable def onOk (k : AV → H → RV) (r : RV) : RV := RV.rec (motive := fun _ => RV) .fail (fun r a b => .need r a b) k r
noncomputable def okI (k : AV → H → RI) (r : RV) : RI := RV.rec (motive := fun _ => RI) .fail (fun r a b => .need r a b) k r

mutual
def avEq : AV → AV → Bool
  | .bool .t, .bool .t => true
  | .bool .f, .bool .f => true
  | .int k a, .int l b => kindBeq k l && a.beq b
  | .str l c, .str m d => Nat.beq l m && Nat.beq c d
  | .sx e, .sx f => e.beq f
  | .sym i, .sym j => Nat.beq i j
  | .ptr b o, .ptr c p => b.beq c && Nat.beq o p
  | .nilp, .nilp => true
  | .slice b o s l c x, .slice b' o' s' l' c' x' => b.beq b' && Nat.beq o o' && Nat.beq s s' && Nat.beq l l' && Nat.beq c c' && x == x'
  | .nils, .nils => true
  | .map b, .map c => b.beq c
  | .nilm, .nilm => true
  | .func f a c, .func g b d => Nat.beq f g && avEqs a b && avEqs c d
  | .yield a, .yield b => a.beq b
  | .nilf, .nilf => true
  | .iface t a, .iface u b => Nat.beq t u && avEq a b
  | .nili, .nili => true
  | .agg a, .agg b => avEqs a b
  | .tup a, .tup b => avEqs a b
  | _, _ => false
def avEqs : List AV → List AV → Bool
  | [], [] => true
  | a :: l, b :: m => avEq a b && avEqs l m
  | _, _ => false
end
def eqS (l c m d : Nat) : SB := sbOf (and (Nat.beq l m) (Nat.beq c d))
/-! '==' of two values -/
noncomputable def onInt2 (f : IntKind → SI → SI → RV) (k : IntKind) (a : SI) (v : AV) : RV :=
  AV.rec (motive_1 := fun _ => RV) (motive_2 := fun _ => RV) (fun _ => .fail) (fun l b => bV (kindBeq k l) (f k a b) .fail) (fun _ _ => .fail) (fun _ => .fail) (fun _ _ => .fail) (.fail) (fun _ _ _ _ _ _ => .fail) (.fail) (fun _ => .fail) (.fail) (fun _ _ _ _ _ => .fail) (fun _ => .fail) (.fail) (fun _ _ _ => .fail) (.fail) (fun _ _ => .fail) (fun _ _ => .fail) (fun _ => .fail) (.fail) (.fail) (.fail) (fun _ _ _ _ => .fail) v
def onInts (f : IntKind → SI → SI → RV) (v w : AV) : RV := onInt (fun k a => onInt2 f k a w) v
noncomputable def onStr2 (f : Nat → Nat → Nat → Nat → RV) (l c : Nat) (v : AV) : RV :=
  AV.rec (motive_1 := fun _ => RV) (motive_2 := fun _ => RV) (fun _ => .fail) (fun _ _ => .fail) (fun m d => f l c m d) (fun _ => .fail) (fun _ _ => .fail) (.fail) (fun _ _ _ _ _ _ => .fail) (.fail) (fun _ => .fail) (.fail) (fun _ _ _ _ _ => .fail) (fun _ => .fail) (.fail) (fun _ _ _ => .fail) (.fail) (fun _ _ => .fail) (fun _ _ => .fail) (fun _ => .fail) (.fail) (.fail) (.fail) (fun _ _ _ _ => .fail) v
def onStrs (f : Nat → Nat → Nat → Nat → RV) (v w : AV) : RV := onStr (fun l c => onStr2 f l c w) v
noncomputable def isP (z : SB → RV) (k : SB → RV) (v : AV) : RV :=
  AV.rec (motive_1 := fun _ => RV) (motive_2 := fun _ => RV) (fun _ => .fail) (fun _ _ => .fail) (fun _ _ => .fail) (fun _ => .fail) (fun b o => k .f) (z .t) (fun _ _ _ _ _ _ => .fail) (.fail) (fun _ => .fail) (.fail) (fun _ _ _ _ _ => .fail) (fun _ => .fail) (.fail) (fun _ _ _ => .fail) (.fail) (fun _ _ => .fail) (fun _ _ => .fail) (fun _ => .fail) (.fail) (.fail) (.fail) (fun _ _ _ _ => .fail) v
noncomputable def isS (z : SB → RV) (k : SB → RV) (v : AV) : RV :=
  AV.rec (motive_1 := fun _ => RV) (motive_2 := fun _ => RV) (fun _ => .fail) (fun _ _ => .fail) (fun _ _ => .fail) (fun _ => .fail) (fun _ _ => .fail) (.fail) (fun b o s l c x => k .f) (z .t) (fun _ => .fail) (.fail) (fun _ _ _ _ _ => .fail) (fun _ => .fail) (.fail) (fun _ _ _ => .fail) (.fail) (fun _ _ => .fail) (fun _ _ => .fail) (fun _ => .fail) (.fail) (.fail) (.fail) (fun _ _ _ _ => .fail) v
noncomputable def isM (z : SB → RV) (k : SB → RV) (v : AV) : RV :=
  AV.rec (motive_1 := fun _ => RV) (motive_2 := fun _ => RV) (fun _ => .fail) (fun _ _ => .fail) (fun _ _ => .fail) (fun _ => .fail) (fun _ _ => .fail) (.fail) (fun _ _ _ _ _ _ => .fail) (.fail) (fun b => k .f) (z .t) (fun _ _ _ _ _ => .fail) (fun _ => .fail) (.fail) (fun _ _ _ => .fail) (.fail) (fun _ _ => .fail) (fun _ _ => .fail) (fun _ => .fail) (.fail) (.fail) (.fail) (fun _ _ _ _ => .fail) v
noncomputable def isF (z : SB → RV) (k : SB → RV) (v : AV) : RV :=
  AV.rec (motive_1 := fun _ => RV) (motive_2 := fun _ => RV) (fun _ => .fail) (fun _ _ => .fail) (fun _ _ => .fail) (fun _ => .fail) (fun _ _ => .fail) (.fail) (fun _ _ _ _ _ _ => .fail) (.fail) (fun _ => .fail) (.fail) (fun f a c _ _ => k .f) (fun l => k .f) (z .t) (fun _ _ _ => .fail) (.fail) (fun _ _ => .fail) (fun _ _ => .fail) (fun _ => .fail) (.fail) (.fail) (.fail) (fun _ _ _ _ => .fail) v
noncomputable def isI (z : SB → RV) (k : SB → RV) (v : AV) : RV :=
  AV.rec (motive_1 := fun _ => RV) (motive_2 := fun _ => RV) (fun _ => .fail) (fun _ _ => .fail) (fun _ _ => .fail) (fun _ => .fail) (fun _ _ => .fail) (.fail) (fun _ _ _ _ _ _ => .fail) (.fail) (fun _ => .fail) (.fail) (fun _ _ _ _ _ => .fail) (fun _ => .fail) (.fail) (fun t w _ => k .f) (z .t) (fun _ _ => .fail) (fun _ _ => .fail) (fun _ => .fail) (.fail) (.fail) (.fail) (fun _ _ _ _ => .fail) v
def noK (_ : SB) : RV := .fail
noncomputable def eqB (s r : SB) (k : SB → RV) : RV :=
  SB.rec (motive := fun _ => RV) (SB.rec (motive := fun _ => RV) (k .t) (k .f) (fun _ _ _ _ => .fail) r) (SB.rec (motive := fun _ => RV) (k .f) (k .t) (fun _ _ _ _ => .fail) r) (fun _ _ _ _ => .fail) s
def eqNum (v w : AV) (k : SB → RV) : RV := onInts (fun _ a b => k (sbEq a b)) v w
def eqStr (v w : AV) (k : SB → RV) : RV := onStrs (fun l c m d => k (eqS l c m d)) v w
def eqBool (v w : AV) (k : SB → RV) : RV := onBool (fun s => onBool (fun r => eqB s r k) w) v
def eqNilp (v w : AV) (k : SB → RV) : RV := isP (fun _ => isP k k w) (fun _ => isP (fun _ => k .f) noK w) v
def eqNils (v w : AV) (k : SB → RV) : RV := isS (fun _ => isS k k w) (fun _ => isS (fun _ => k .f) noK w) v
def eqNilm (v w : AV) (k : SB → RV) : RV := isM (fun _ => isM k k w) (fun _ => isM (fun _ => k .f) noK w) v
def eqNilf (v w : AV) (k : SB → RV) : RV := isF (fun _ => isF k k w) (fun _ => isF (fun _ => k .f) noK w) v
def eqNili (v w : AV) (k : SB → RV) : RV := isI (fun _ => isI k k w) (fun _ => isI (fun _ => k .f) noK w) v
noncomputable def eqv (e : EqK) : AV → AV → (SB → RV) → RV := EqK.rec (motive := fun _ => AV → AV → (SB → RV) → RV) eqNum eqStr eqBool eqNilp eqNils eqNilm eqNilf eqNili e

/-! ### operations -/
noncomputable def opd (env : TV) (loc : List AV) (o : Opd) : AV := Opd.rec (motive := fun _ => AV) (fun i => getL loc i) (fun p => TV.get p env) (fun v => v) o
abbrev Call := AV → List AV → H → RV
abbrev OpF := Call → Dec → TV → List AV → H → RV
noncomputable def opds (env : TV) (loc : List AV) (l : List Opd) : List AV := List.rec (motive := fun _ => List AV) [] (fun o _ ih => opd env loc o :: ih) l
def rows (h : H) (p : Ps) (k : Bool → List AV → RV) : RV := onRow k (TB.get p h.t)
def ents (h : H) (p : Ps) (k : List (AV × AV) → RV) : RV := onEnts k (TB.get p h.t)
/-- n cells from o on, handed on -/
def readN (h : H) (p : Ps) (o n : Nat) (k : List AV → RV) : RV := rows h p fun _ c => bV (hasL (Nat.add o n) c) (k (takeL n (dropL o c))) .fail
def writeN (h : H) (p : Ps) (o : Nat) (vs : List AV) (k : H → RV) : RV :=
  rows h p fun ro c => bV ro .fail (bV (hasL (Nat.add o (lenL vs)) c) (k (h.put p (.row false (putL o vs c)))) .fail)
def xMv (a : Opd) : OpF := fun _ _ env loc h => .ok (opd env loc a) h
def xPick (c a b : Opd) : OpF := fun _ D env loc h => onBool (fun s => ifV D s (.ok (opd env loc a) h) (.ok (opd env loc b) h)) (opd env loc c)
def newRow (h : H) (cs : List AV) : RV := .ok (.ptr h.next 0) (h.alloc (.row false cs))
def xAlloc (z : List AV) : OpF := fun _ _ _ _ h => newRow h z
def xBox (a : Opd) : OpF := fun _ _ env loc h => onCells (fun cs => newRow h cs) (opd env loc a)
noncomputable def putAll (env : TV) (loc : List AV) (k : List AV → RV) (ps : List (Nat × Nat × Opd)) : List AV → RV :=
  List.rec (motive := fun _ => List AV → RV) k (fun x _ ih z => onCells (fun cs => bV (and (Nat.beq (lenL cs) x.2.1) (hasL (Nat.add x.1 x.2.1) z)) (ih (putL x.1 cs z)) .fail) (opd env loc x.2.2)) ps
def xBuild (z : List AV) (ps : List (Nat × Nat × Opd)) : OpF := fun _ _ env loc h => putAll env loc (fun cs => .ok (.agg cs) h) ps z
def newSlice (h : H) (es n c : Nat) (ex : Bool) (cs : List AV) : RV := .ok (.slice h.next 0 es n c ex) (h.alloc (.row false cs))
def xBuildSlice (es n : Nat) (z : List AV) (ps : List (Nat × Nat × Opd)) : OpF := fun _ _ env loc h => putAll env loc (fun cs => newSlice h es n n true cs) ps z
def xLoad1 (a : Opd) : OpF := fun _ _ env loc h => onPtr (fun p o => rows h p fun _ c => bV (hasL (Nat.succ o) c) (.ok (getL c o) h) .fail) (opd env loc a)
def xLoadN (n : Nat) (a : Opd) : OpF := fun _ _ env loc h => onPtr (fun p o => readN h p o n fun cs => .ok (.agg cs) h) (opd env loc a)
def xStore (n : Nat) (a b : Opd) : OpF := fun _ _ env loc h => onPtr (fun p o => onCells (fun cs => bV (Nat.beq (lenL cs) n) (writeN h p o cs fun h => .ok (.tup []) h) .fail) (opd env loc b)) (opd env loc a)
def xNilCheck (a : Opd) : OpF := fun _ _ env loc h => okPtr h (opd env loc a)
def intI (k : IntKind) (n : SI) (h : H) : RV := .ok (.int k n) h
def boolI (s : SB) (h : H) : RV := .ok (.bool s) h
/-- a sum, with what is known in one -/
def addN (k : IntKind) (a b : SI) : SI := match b with
  | .nat n => match a with
    | .bin .add l x (.nat m) => if kindBeq k l then .bin .add k x (.nat (Nat.add m n)) else .bin .add k a b
    | _ => .bin .add k a b
  | _ => .bin .add k a b
def addF (k : IntKind) (a b : SI) : SI := on2 SI (addN k a b) (fun m n => wrapN k (Nat.add m n)) (fun m n => wrapI k (m + n)) a b
noncomputable def subNN (k : IntKind) (m n : Nat) : SI := Bool.rec (motive := fun _ => SI) (wrapI k (.negSucc (Nat.sub n (Nat.succ m)))) (wrapN k (Nat.sub m n)) (Nat.ble n m)
def subF (k : IntKind) (a b : SI) : SI := on2 SI (.bin .sub k a b) (subNN k) (fun m n => wrapI k (m - n)) a b
def mulF (k : IntKind) (a b : SI) : SI := on2 SI (.bin .mul k a b) (fun m n => wrapN k (Nat.mul m n)) (fun m n => wrapI k (m * n)) a b
def keepF (_ : IntKind) (a _ : SI) : SI := a
noncomputable def arithF (op : BinOp) : IntKind → SI → SI → SI :=
  BinOp.rec (motive := fun _ => IntKind → SI → SI → SI) addF subF mulF keepF keepF keepF keepF keepF keepF keepF keepF keepF keepF keepF keepF keepF keepF op
def xArith (op : BinOp) (a b : Opd) : OpF := fun _ _ env loc h => onInts (fun k x y => intI k (arithF op k x y) h) (opd env loc a) (opd env loc b)
def xQuo (a b : Opd) : OpF := fun _ D env loc h => onInts (fun k x y => ifV D (sbEq y (.nat 0)) .fail (intI k (on2 SI (knownE D (.bin .quo k x y)) (fun m n => wrapN k (Nat.div m n)) (fun m n => wrapI k (m.tdiv n)) x y) h)) (opd env loc a) (opd env loc b)
def xRem (a b : Opd) : OpF := fun _ D env loc h => onInts (fun k x y => ifV D (sbEq y (.nat 0)) .fail (intI k (on2 SI (knownE D (.bin .rem k x y)) (fun m n => .nat (Nat.mod m n)) (fun m n => .ofInt (m.tmod n)) x y) h)) (opd env loc a) (opd env loc b)
def bitsI (op : BinOp) (k : IntKind) (x y : Int) : SI :=
  let a := BitVec.ofInt k.bits x
  let b := BitVec.ofInt k.bits y
  match op with
  | .and => .ofInt (k.wrap (a &&& b).toNat) | .or => .ofInt (k.wrap (a ||| b).toNat) | .xor => .ofInt (k.wrap (a ^^^ b).toNat) | _ => .ofInt (k.wrap (a &&& ~~~b).toNat)
def onLits (k : Int → Int → RV) (a b : SI) : RV := on2 RV .fail (fun m n => k m n) k a b
def xBits (op : BinOp) (a b : Opd) : OpF := fun _ _ env loc h => onInts (fun k x y => onLits (fun m n => intI k (bitsI op k m n) h) x y) (opd env loc a) (opd env loc b)
def xShl (a b : Opd) : OpF := fun _ _ env loc h => onInt (fun k x => onIdx (fun n => onNat RV .fail (fun m => intI k (wrapI k ((m : Int) * 2 ^ min n k.bits)) h) (fun m => intI k (wrapI k (m * 2 ^ min n k.bits)) h) x) (opd env loc b)) (opd env loc a)
def xShr (a b : Opd) : OpF := fun _ _ env loc h => onInt (fun k x => onIdx (fun n => onNat RV .fail (fun m => intI k (.nat (Nat.shiftRight m (min n k.bits))) h) (fun m => intI k (.ofInt (m.fdiv (2 ^ min n k.bits))) h) x) (opd env loc b)) (opd env loc a)
noncomputable def negIf (b : Bool) (s : SB) : SB := Bool.rec (motive := fun _ => SB) s s.not b
def xLt (ng : Bool) (a b : Opd) : OpF := fun _ _ env loc h => onInts (fun _ x y => boolI (negIf ng (sbLt x y)) h) (opd env loc a) (opd env loc b)
def xLtS (ng : Bool) (a b : Opd) : OpF := fun _ _ env loc h => onStrs (fun l c m d => boolI (negIf ng (sbOf (strLt l c m d (Nat.succ m) 0))) h) (opd env loc a) (opd env loc b)
def catS (D : Dec) (e f : SS) (h : H) : RV := ifV D (.cmp true .le (.len (.cat e f)) (.nat 1099511627776)) (.ok (.sx (.cat e f)) h) .fail
def xCat (a b : Opd) : OpF := fun _ D env loc h => onStrX (fun l c => onStrX (fun m d => bV (Nat.ble (Nat.add l m) 1099511627776) (.ok (.str (Nat.add l m) (strCat l c d)) h) .fail) (fun f => catS D (.lit l c) f h) (opd env loc b))
  (fun e => onStrX (fun m d => catS D e (.lit m d) h) (fun f => catS D e f h) (opd env loc b)) (opd env loc a)
/-- how far a place is from another -/
def offs (b : SI) : SI → Option Nat
  | .nat n => match b with | .nat m => if Nat.ble m n then some (Nat.sub n m) else none | _ => none
  | .bin .add .i64 x (.nat n) => if x.beq b then some n else none
  | x => if x.beq b then some 0 else none
def winAt (e : SS) (i : SI) : List (SS × SI × Nat × Nat × Bool) → Option (Nat × Nat × Nat × Bool)   -- how far in; how long; the bytes; whether to the end
  | [] => none
  | (f, b, l, c, z) :: t => match (if e.beq f then offs b i else none) with
    | some n => if Nat.ble n l then some (n, l, c, z) else winAt e i t
    | none => winAt e i t
def byteX (D : Dec) (e : SS) (i : SI) (h : H) : RV := match winAt e i D.t with
  | some (n, l, c, _) => bV (Nat.ble (Nat.succ n) l) (.ok (.int .u8 (.nat (strByte c n))) h) .fail
  | none => .fail
noncomputable def onIntX (k : SI → RV) (v : AV) : RV :=
  AV.rec (motive_1 := fun _ => RV) (motive_2 := fun _ => RV) (fun _ => .fail) (fun l n => k n) (fun _ _ => .fail) (fun _ => .fail) (fun _ _ => .fail) (.fail) (fun _ _ _ _ _ _ => .fail) (.fail) (fun _ => .fail) (.fail) (fun _ _ _ _ _ => .fail) (fun _ => .fail) (.fail) (fun _ _ _ => .fail) (.fail) (fun _ _ => .fail) (fun _ _ => .fail) (fun _ => .fail) (.fail) (.fail) (.fail) (fun _ _ _ _ => .fail) v
def winAt2 (e : SS) (i j : SI) : List (SS × SI × Nat × Nat × Bool) → Option (Nat × Nat × Nat)   -- how far in both are; the bytes
  | [] => none
  | (f, b, l, c, _) :: t => match (if e.beq f then offs b i else none) with
    | some n => (match offs b j with
      | some m => if Nat.ble n m && Nat.ble m l then some (n, m, c) else winAt2 e i j t
      | none => winAt2 e i j t)
    | none => winAt2 e i j t
def partX (D : Dec) (e : SS) (lo : SI) (hi : Option SI) (h : H) : RV := match hi with
  | none => (match winAt e lo D.t with
    | some (n, l, c, z) => bV z (.ok (.str (Nat.sub l n) (strSub c n l)) h) .fail
    | none => .fail)
  | some x => (match winAt2 e lo x D.t with
    | some (n, m, c) => .ok (.str (Nat.sub m n) (strSub c n m)) h
    | none => .fail)
def xEq (ng : Bool) (e : EqK) (a b : Opd) : OpF := fun _ _ env loc h => eqv e (opd env loc a) (opd env loc b) fun s => boolI (negIf ng s) h
/-- cell by cell, till two are unlike -/
noncomputable def eqCells (D : Dec) (h : H) (ng : Bool) (ks : List EqK) : List AV → List AV → RV :=
  List.rec (motive := fun _ => List AV → List AV → RV) (fun _ _ => boolI (negIf ng .t) h)
    (fun e _ ih a b => List.rec (motive := fun _ => RV) .fail (fun x l _ => List.rec (motive := fun _ => RV) .fail (fun y m _ => eqv e x y fun s => ifV D s (ih l m) (boolI (negIf ng .f) h)) b) a) ks
def xEqA (ng : Bool) (ks : List EqK) (a b : Opd) : OpF := fun _ D env loc h => onAgg (fun x => onAgg (fun y => eqCells D h ng ks x y) (opd env loc b)) (opd env loc a)
def xNeg (a : Opd) : OpF := fun _ _ env loc h => onInt (fun k x => intI k (onNat SI (.bin .sub k (.nat 0) x) (fun n => wrapI k (-(n : Int))) (fun n => wrapI k (-n)) x) h) (opd env loc a)
def xNot (a : Opd) : OpF := fun _ _ env loc h => onBool (fun s => boolI s.not h) (opd env loc a)
def xConv (k : IntKind) (a : Opd) : OpF := fun _ D env loc h => onInt (fun _ x => intI k (onNat SI (knownE D (.conv k x)) (fun n => wrapN k n) (fun n => wrapI k n) x) h) (opd env loc a)
def xToStr (a : Opd) : OpF := fun _ _ env loc h => onIdx (fun n => bV (Nat.ble n 127) (.ok (.str 1 n) h) .fail) (opd env loc a)
def xFieldAddr (off : Nat) (a : Opd) : OpF := fun _ _ env loc h => onPtr (fun p o => .ok (.ptr p (Nat.add o off)) h) (opd env loc a)
def xField1 (off : Nat) (a : Opd) : OpF := fun _ _ env loc h => onAgg (fun cs => bV (hasL (Nat.succ off) cs) (.ok (getL cs off) h) .fail) (opd env loc a)
def xFieldN (off n : Nat) (a : Opd) : OpF := fun _ _ env loc h => onAgg (fun cs => bV (hasL (Nat.add off n) cs) (.ok (.agg (takeL n (dropL off cs))) h) .fail) (opd env loc a)
def lt? (i n : Nat) (r : RV) : RV := bV (Nat.ble (Nat.succ i) n) r .fail
def xIndexArr (len es : Nat) (a i : Opd) : OpF := fun _ _ env loc h => onPtr (fun p o => onIdx (fun i => lt? i len (.ok (.ptr p (Nat.add o (Nat.mul i es))) h)) (opd env loc i)) (opd env loc a)
def xIndexSl (es : Nat) (a i : Opd) : OpF := fun _ _ env loc h => onSlice .fail (fun p o _ len _ _ => onIdx (fun i => lt? i len (.ok (.ptr p (Nat.add o (Nat.mul i es))) h)) (opd env loc i)) (opd env loc a)
def xIndexStr (a i : Opd) : OpF := fun _ D env loc h => onStrX (fun l c => onIdx (fun i => lt? i l (intI .u8 (.nat (strByte c i)) h)) (opd env loc i)) (fun e => onIntX (fun i => byteX D e i h) (opd env loc i)) (opd env loc a)
def xIndexAgg1 (len : Nat) (a i : Opd) : OpF := fun _ _ env loc h => onAgg (fun cs => onIdx (fun i => lt? i len (bV (hasL (Nat.succ i) cs) (.ok (getL cs i) h) .fail)) (opd env loc i)) (opd env loc a)
def xIndexAggN (len es : Nat) (a i : Opd) : OpF := fun _ _ env loc h => onAgg (fun cs => onIdx (fun i => lt? i len (bV (hasL (Nat.add (Nat.mul i es) es) cs) (.ok (.agg (takeL es (dropL (Nat.mul i es) cs))) h) .fail)) (opd env loc i)) (opd env loc a)
/-- a bound that may be left out -/
noncomputable def onOpt (env : TV) (loc : List AV) (d : Nat) (k : Nat → RV) (o : Option Opd) : RV := Option.rec (motive := fun _ => RV) (k d) (fun x => onIdx k (opd env loc x)) o
def partL (D : Dec) (e : SS) (h : H) (env : TV) (loc : List AV) (lo hi : Option Opd) : RV := match lo with
  | none => .fail
  | some lo => onIntX (fun lo => match hi with | none => partX D e lo none h | some hi => onIntX (fun hi => partX D e lo (some hi) h) (opd env loc hi)) (opd env loc lo)
def xSliceStr (a : Opd) (lo hi : Option Opd) : OpF := fun _ D env loc h => onStrX (fun l c => onOpt env loc 0 (fun lo' => onOpt env loc l (fun hi' => bV (and (Nat.ble hi' l) (Nat.ble lo' hi')) (.ok (.str (Nat.sub hi' lo') (strSub c lo' hi')) h) .fail) hi) lo) (fun e => partL D e h env loc lo hi) (opd env loc a)
/-- where it begins: at its end's bound nothing is gone on -/
noncomputable def begins (es o l m : Nat) (ex : Bool) : Nat := Bool.rec (motive := fun _ => Nat) (Nat.add o (Nat.mul l es)) o (and ex (Nat.beq m l))
def sub3 (h : H) (p : Ps) (o es cap : Nat) (ex : Bool) (l hh m : Nat) : RV :=
  bV (and (Nat.ble m cap) (and (Nat.ble hh m) (Nat.ble l hh))) (.ok (.slice p (begins es o l m ex) es (Nat.sub hh l) (Nat.sub m l) ex) h) .fail
noncomputable def isSome' (o : Option Opd) : Bool := Option.rec (motive := fun _ => Bool) false (fun _ => true) o
def xSliceSl (es : Nat) (a : Opd) (lo hi mx : Option Opd) : OpF := fun _ _ env loc h =>
  onSlice (onOpt env loc 0 (fun l => onOpt env loc 0 (fun hh => onOpt env loc 0 (fun m => bV (and (Nat.beq l 0) (and (Nat.beq hh 0) (Nat.beq m 0))) (.ok .nils h) .fail) mx) hi) lo)
    (fun p o es' len cap ex => onOpt env loc 0 (fun l => onOpt env loc len (fun hh => onOpt env loc cap (fun m => bV (Nat.beq es' es) (sub3 h p o es cap (or ex (isSome' mx)) l hh m) .fail) mx) hi) lo) (opd env loc a)
def xSliceArr (n es : Nat) (a : Opd) (lo hi mx : Option Opd) : OpF := fun _ _ env loc h =>
  onPtr (fun p o => onOpt env loc 0 (fun l => onOpt env loc n (fun hh => onOpt env loc n (fun m => sub3 h p o es n true l hh m) mx) hi) lo) (opd env loc a)
def xMkFunc (f : Nat) (fs cs : List Opd) : OpF := fun _ _ env loc h => .ok (.func f (opds env loc fs) (opds env loc cs)) h
def xMkMap : OpF := fun _ _ _ _ h => .ok (.map h.next) (h.alloc (.map []))
def xMkSlice (es : Nat) (z : List AV) (len cap : Opd) : OpF := fun _ _ env loc h => onIdx (fun l => onIdx (fun c => bV (and (Nat.ble l c) (Nat.ble c 65536)) (newSlice h es l c true (repL z c)) .fail) (opd env loc cap)) (opd env loc len)
def xMkIface (t : Nat) (a : Opd) : OpF := fun _ _ env loc h => .ok (.iface t (opd env loc a)) h
/-- the entry of a key, or none: a text's -/
def keyEq (a b : AV) (k : SB → RV) : RV := eqStr a b k
noncomputable def findE (D : Dec) (key : AV) (z : RV) (k : AV → RV) (es : List (AV × AV)) : RV :=
  List.rec (motive := fun _ => RV) z (fun e _ ih => keyEq key e.1 fun s => ifV D s (k e.2) ih) es
def xLookup (z : AV) (m k : Opd) : OpF := fun _ D env loc h => onMap (.ok z h) (fun p => ents h p fun es => findE D (opd env loc k) (.ok z h) (fun v => .ok v h) es) (opd env loc m)
def xLookupOk (z : AV) (m k : Opd) : OpF := fun _ D env loc h => onMap (.ok (.tup [z, .bool .f]) h) (fun p => ents h p fun es => findE D (opd env loc k) (.ok (.tup [z, .bool .f]) h) (fun v => .ok (.tup [v, .bool .t]) h) es) (opd env loc m)
/-- entries with one more, or one that is another -/
noncomputable def updE (D : Dec) (key v : AV) (k : List (AV × AV) → RV) (es : List (AV × AV)) : List (AV × AV) → RV :=
  List.rec (motive := fun _ => List (AV × AV) → RV) (fun acc => k ((key, v) :: acc)) (fun e l ih acc => keyEq key e.1 fun s => ifV D s (k (acc.foldl (fun l x => x :: l) ((key, v) :: l))) (ih (e :: acc))) es
def updNew (h : H) (p : Ps) (es : List (AV × AV)) (v k : AV) : RV := onStrX (fun l c => .ok (.tup []) (h.put p (.map (es ++ [(k, v)])))) (fun e => .ok (.tup []) (h.put p (.map (es ++ [(k, v)])))) k
def xMapUpd (m k v : Opd) : OpF := fun _ D env loc h => onMap .fail (fun p => ents h p fun es => findE D (opd env loc k) (updNew h p es (opd env loc v) (opd env loc k)) (fun _ => updE D (opd env loc k) (opd env loc v) (fun es' => .ok (.tup []) (h.put p (.map es'))) es []) es) (opd env loc m)
def natI (n : Nat) (h : H) : RV := .ok (.int .i64 (.nat n)) h
noncomputable def lenE (es : List (AV × AV)) : Nat := List.rec (motive := fun _ => Nat) 0 (fun _ _ ih => Nat.succ ih) es
def xLenS (a : Opd) : OpF := fun _ _ env loc h => onStrX (fun l _ => natI l h) (fun e => intI .i64 (.len e) h) (opd env loc a)
def xLenL (a : Opd) : OpF := fun _ _ env loc h => onSlice (natI 0 h) (fun _ _ _ l _ _ => natI l h) (opd env loc a)
def xLenM (a : Opd) : OpF := fun _ _ env loc h => onMap (natI 0 h) (fun p => ents h p fun es => natI (lenE es) h) (opd env loc a)
def xCap (a : Opd) : OpF := fun _ _ env loc h => onSlice (natI 0 h) (fun _ _ _ _ c ex => bV ex (natI c h) .fail) (opd env loc a)
def byteCells (c n : Nat) : List AV := (List.range n).map fun i => .int .u8 (.nat (strByte c i))
/-- so many elements of a slice, or bytes of a text, handed on -/
noncomputable def onElems (h : H) (n es : Nat) (k : List AV → RV) (v : AV) : RV :=
  AV.rec (motive_1 := fun _ => RV) (motive_2 := fun _ => RV) (fun _ => .fail) (fun _ _ => .fail) (fun l c => bV (Nat.beq es 1) (k (byteCells c n)) .fail) (fun _ => .fail) (fun _ _ => .fail) (.fail) (fun p o s l c x => bV (Nat.beq n 0) (k []) (readN h p o (Nat.mul n es) k)) (k []) (fun _ => .fail) (.fail) (fun _ _ _ _ _ => .fail) (fun _ => .fail) (.fail) (fun _ _ _ => .fail) (.fail) (fun _ _ => .fail) (fun _ _ => .fail) (fun _ => .fail) (.fail) (.fail) (.fail) (fun _ _ _ _ => .fail) v
noncomputable def onLenOf (k : Nat → RV) (v : AV) : RV :=
  AV.rec (motive_1 := fun _ => RV) (motive_2 := fun _ => RV) (fun _ => .fail) (fun _ _ => .fail) (fun l c => k l) (fun _ => .fail) (fun _ _ => .fail) (.fail) (fun p o s l c x => k l) (k 0) (fun _ => .fail) (.fail) (fun _ _ _ _ _ => .fail) (fun _ => .fail) (.fail) (fun _ _ _ => .fail) (.fail) (fun _ _ => .fail) (fun _ _ => .fail) (fun _ => .fail) (.fail) (.fail) (.fail) (fun _ _ _ _ => .fail) v
/-- the block that was outgrown is read no more -/
def H.kill (h : H) (p : Ps) : H := ⟨TB.set .dead p h.t, h.next⟩
def growTo (h : H) (p : Ps) (es need : Nat) (ex : Bool) (cs : List AV) : RV := bV (Nat.ble need 1048576)
  (bV ex (newSlice h es need need false cs) (rows h p fun ro _ => bV ro .fail (newSlice (h.kill p) es need need false cs))) .fail
/-- n elements behind those of a slice -/
noncomputable def appendTo (h : H) (es n : Nat) (new : List AV) (v : AV) : RV :=
  AV.rec (motive_1 := fun _ => RV) (motive_2 := fun _ => RV) (fun _ => .fail) (fun _ _ => .fail) (fun _ _ => .fail) (fun _ => .fail) (fun _ _ => .fail) (.fail) (fun p o s l c ex => bV (Nat.beq s es) (bV (Nat.ble (Nat.add l n) c) (bV (Nat.beq n 0) (.ok (.slice p o es l c ex) h) (writeN h p (Nat.add o (Nat.mul l es)) new fun h => .ok (.slice p o es (Nat.add l n) c ex) h)) (bV (Nat.beq l 0) (growTo h p es (Nat.add l n) ex new) (readN h p o (Nat.mul l es) fun old => growTo h p es (Nat.add l n) ex (appL old new)))) .fail) (bV (Nat.beq n 0) (.ok .nils h) (bV (Nat.ble n 1048576) (newSlice h es n n false new) .fail)) (fun _ => .fail) (.fail) (fun _ _ _ _ _ => .fail) (fun _ => .fail) (.fail) (fun _ _ _ => .fail) (.fail) (fun _ _ => .fail) (fun _ _ => .fail) (fun _ => .fail) (.fail) (.fail) (.fail) (fun _ _ _ _ => .fail) v
def xAppend (es : Nat) (a b : Opd) : OpF := fun _ _ env loc h => onLenOf (fun n => onElems h n es (fun new => appendTo h es n new (opd env loc a)) (opd env loc b)) (opd env loc b)
def xAppendZ (es : Nat) (z : List AV) (a n : Opd) : OpF := fun _ _ env loc h => onIdx (fun n => bV (Nat.ble n 65536) (appendTo h es n (repL z n) (opd env loc a)) .fail) (opd env loc n)
def xCopy (es : Nat) (a b : Opd) : OpF := fun _ _ env loc h => onSlice (onLenOf (fun _ => natI 0 h) (opd env loc b)) (fun p o _ la _ _ => onLenOf (fun lb =>
    bV (Nat.beq (Nat.min la lb) 0) (natI 0 h) (onElems h (Nat.min la lb) es (fun cs => writeN h p o cs fun h => natI (Nat.min la lb) h) (opd env loc b))) (opd env loc b)) (opd env loc a)
noncomputable def mm2 (mx : Bool) (x y : Nat) : Nat := Bool.rec (motive := fun _ => Nat) (Bool.rec (motive := fun _ => Nat) x y (Nat.ble (Nat.succ y) x)) (Bool.rec (motive := fun _ => Nat) x y (Nat.ble (Nat.succ x) y)) mx
def xMinmax (mx : Bool) (a b : Opd) : OpF := fun _ _ env loc h => onInt (fun k _ => onIdx (fun x => onIdx (fun y => intI k (.nat (mm2 mx x y)) h) (opd env loc b)) (opd env loc a)) (opd env loc a)
def xClearMap (a : Opd) : OpF := fun _ _ env loc h => onMap (.ok (.tup []) h) (fun p => ents h p fun _ => .ok (.tup []) (h.put p (.map []))) (opd env loc a)
def xClearSl (z : List AV) (a : Opd) : OpF := fun _ _ env loc h => onSlice (.ok (.tup []) h) (fun p o _ l _ _ => bV (Nat.beq l 0) (.ok (.tup []) h) (writeN h p o (repL z l) fun h => .ok (.tup []) h)) (opd env loc a)
def xExtract (i : Nat) (a : Opd) : OpF := fun _ _ env loc h => onTup (fun cs => bV (hasL (Nat.succ i) cs) (.ok (getL cs i) h) .fail) (opd env loc a)
def xCall (f : Nat) (as : List Opd) : OpF := fun call _ env loc h => call (.func f [] []) (opds env loc as) h
def xCallV (f : Opd) (as : List Opd) : OpF := fun call _ env loc h => call (opd env loc f) (opds env loc as) h
def xBad : OpF := fun _ _ _ _ _ => .fail
noncomputable def evalOp (x : XOp) : OpF := XOp.rec (motive := fun _ => OpF) xMv xPick xAlloc xBox xBuild xBuildSlice xLoad1 xLoadN xStore xNilCheck xArith xQuo xRem xBits xShl xShr xLt xLtS xCat xEq xEqA xNeg xNot xConv xToStr xFieldAddr xField1 xFieldN xIndexArr xIndexSl xIndexStr xIndexAgg1 xIndexAggN xSliceStr xSliceSl xSliceArr xMkFunc xMkMap xMkSlice xMkIface xLookup xLookupOk xMapUpd xLenS xLenL xLenM xCap xAppend xAppendZ xCopy xMinmax xClearMap xClearSl xExtract xCall xCallV xBad x

/-! ### regions -/
abbrev ItF := Call → Dec → TV → List AV → H → RI
def undefV : AV := .tup []
def doOp (x : XOp) (ih : ItF) : ItF := fun call D env loc h => okI (fun v h => ih call D env (v :: loc) h) (evalOp x call D env loc h)
def skipOp (ih : ItF) : ItF := fun call D env loc h => ih call D env (undefV :: loc) h
noncomputable def onBoolI (z : RI) (k : SB → RI) (v : AV) : RI :=
  AV.rec (motive_1 := fun _ => RI) (motive_2 := fun _ => RI) (fun b => k b) (fun _ _ => .fail) (fun _ _ => .fail) (fun _ => .fail) (fun _ _ => .fail) (.fail) (fun _ _ _ _ _ _ => .fail) (.fail) (fun _ => .fail) (.fail) (fun _ _ _ _ _ => .fail) (fun _ => .fail) (.fail) (fun _ _ _ => .fail) (.fail) (fun _ _ => .fail) (fun vs _ => z) (fun _ => .fail) (.fail) (.fail) (.fail) (fun _ _ _ _ => .fail) v
noncomputable def pickI (b : Bool) (x y : RI) : RI := Bool.rec (motive := fun _ => RI) y x b
def doGop (g : Opd) (want : Bool) (x : XOp) (ih : ItF) : ItF := fun call D env loc h =>
  onBoolI (skipOp ih call D env loc h) (fun s => ifI D s (pickI want (doOp x ih call D env loc h) (skipOp ih call D env loc h)) (pickI want (skipOp ih call D env loc h) (doOp x ih call D env loc h))) (opd env loc g)
def doChk (i : Nat) (x : XOp) (ih : ItF) : ItF := fun call D env loc h =>
  okI (fun v _ => pickI (avEq v (getL loc i)) (ih call D env loc h) .fail) (evalOp x call D env loc h)
noncomputable def doItem (it : XItem) (ih : ItF) : ItF := XItem.rec (motive := fun _ => ItF → ItF) doOp doGop doChk it ih
def endI : ItF := fun _ _ _ loc h => .ok loc h
def consI (it : XItem) (_ : List XItem) (ih : ItF) : ItF := doItem it ih
noncomputable def doItems (l : List XItem) : ItF := List.rec (motive := fun _ => ItF) endI consI l
noncomputable def writes (env0 : TV) (loc : List AV) (ws : List (Ps × Opd)) : TV → TV :=
  List.rec (motive := fun _ => TV → TV) (fun env => env) (fun w _ ih env => ih (TV.set (opd env0 loc w.2) w.1 env)) ws

/-! ### code -/
structure Cx where
  call : Call
  code : XCode → TV → H → RC
  D : Dec
abbrev CoF := Cx → TV → H → RC
noncomputable def onNormal (k : TV → H → RC) (r : RC) : RC :=
  RC.rec (motive := fun _ => RC) .fail (fun r a b => .need r a b) (fun e env h => Ex.rec (motive := fun _ => RC) (k env h) (fun i => .ok (.exit i) env h) (fun l => .ok (.goto l) env h) (.ok .ret env h) e) r
def cSkip : CoF := fun _ env h => .ok .normal env h
noncomputable def regionEnd (ws : List (Ps × Opd)) (env : TV) (r : RI) : RC := RI.rec (motive := fun _ => RC) .fail (fun r a b => .need r a b) (fun loc h => .ok .normal (writes env loc ws env) h) r
def cRegion (items : List XItem) (ws : List (Ps × Opd)) : CoF := fun cx env h => regionEnd ws env (doItems items cx.call cx.D env [] h)
def cSeq (_ _ : XCode) (a b : CoF) : CoF := fun cx env h => onNormal (fun env h => b cx env h) (a cx env h)
noncomputable def condOn (D : Dec) (x y : RC) (v : AV) : RC :=
  AV.rec (motive_1 := fun _ => RC) (motive_2 := fun _ => RC) (fun s => ifC D s x y) (fun _ _ => .fail) (fun _ _ => .fail) (fun _ => .fail) (fun _ _ => .fail) (.fail) (fun _ _ _ _ _ _ => .fail) (.fail) (fun _ => .fail) (.fail) (fun _ _ _ _ _ => .fail) (fun _ => .fail) (.fail) (fun _ _ _ => .fail) (.fail) (fun _ _ => .fail) (fun _ _ => .fail) (fun _ => .fail) (.fail) (.fail) (.fail) (fun _ _ _ _ => .fail) v
def cCond (c : Opd) (_ _ : XCode) (a b : CoF) : CoF := fun cx env h => condOn cx.D (a cx env h) (b cx env h) (opd env [] c)
noncomputable def pickC (b : Bool) (x y : RC) : RC := Bool.rec (motive := fun _ => RC) y x b
noncomputable def outOf (id : Nat) (r : RC) : RC :=
  RC.rec (motive := fun _ => RC) .fail (fun r a b => .need r a b) (fun e env h => Ex.rec (motive := fun _ => RC) (.ok .normal env h) (fun i => pickC (Nat.beq i id) (.ok .normal env h) (.ok (.exit i) env h)) (fun l => .ok (.goto l) env h) (.ok .ret env h) e) r
def cBlock (id : Nat) (_ : XCode) (a : CoF) : CoF := fun cx env h => outOf id (a cx env h)
def loopZ : CoF → CoF := fun _ _ _ _ => .fail
def loopS (_ : Nat) (ih : CoF → CoF) : CoF → CoF := fun a cx env h => onNormal (fun env h => ih a cx env h) (a cx env h)
noncomputable def loopN (n : Nat) : CoF → CoF := Nat.rec (motive := fun _ => CoF → CoF) loopZ loopS n
def cLoop (_ : XCode) (a : CoF) : CoF := loopN 100000 a
def cExit (id : Nat) : CoF := fun _ env h => .ok (.exit id) env h
def cLabel (_ : Nat) : CoF := cSkip
def cGoto (l : Nat) : CoF := fun _ env h => .ok (.goto l) env h
def cRet : CoF := fun _ env h => .ok .ret env h
def cBad : CoF := fun _ _ _ => .fail
def XCode.findLabel : XCode → Nat → Option XCode
  | .seq a b, l => match a.findLabel l with | some rest => some (.seq rest b) | none => b.findLabel l
  | .label l', l => if l' == l then some .skip else none
  | _, _ => none
def cScope (all cur : XCode) (_ a : CoF) : CoF := fun cx env h =>
  match a cx env h with
  | .ok (.goto l) env h => match all.findLabel l with
    | some rest => cx.code (.scope all rest) env h
    | none => .ok (.goto l) env h
  | r => r
def cRangeF (f : Opd) (ps : List Ps) (as body : XCode) (_ _ : CoF) : CoF := fun cx env h =>
  match cx.call (opd env [] f) [.yield h.next] (h.alloc (.loop 0 .normal env ps as body)) with
  | .ok _ h' => match TB.get h.next h'.t with
    | .loop st pend e ps as body => match Nat.beq st 1 with
      | true => .fail
      | false => .ok pend env (h'.put h.next (.loop 3 pend e ps as body))
    | _ => .fail
  | .need r a b => .need r a b
  | .fail => .fail
noncomputable def evC (c : XCode) : CoF := XCode.rec (motive := fun _ => CoF) cSkip cRegion cSeq cCond cBlock cLoop cRangeF cExit cScope cLabel cGoto cRet cBad c

/-! ### calls -/
noncomputable def setPs (ps : List Ps) : List AV → TV → TV :=
  List.rec (motive := fun _ => List AV → TV → TV) (fun _ env => env) (fun p _ ih l env => List.rec (motive := fun _ => TV) env (fun v vs _ => ih vs (TV.set v p env)) l) ps
def resV (p : Ps) : H → TV → (AV → RV) → RV := fun _ env k => k (TV.get p env)
def resC (p : Ps) : H → TV → (AV → RV) → RV := fun h env k => onPtr (fun b o => rows h b fun _ c => bV (hasL (Nat.succ o) c) (k (getL c o)) .fail) (TV.get p env)
def resN (p : Ps) (n : Nat) : H → TV → (AV → RV) → RV := fun h env k => onPtr (fun b o => readN h b o n fun cs => k (.agg cs)) (TV.get p env)
noncomputable def resOf (r : XRes) : H → TV → (AV → RV) → RV := XRes.rec (motive := fun _ => H → TV → (AV → RV) → RV) resV resC resN r
noncomputable def tupR (h : H) (vs : List AV) : RV := List.rec (motive := fun _ => RV) (.ok (.tup []) h) (fun v l _ => List.rec (motive := fun _ => RV) (.ok v h) (fun _ _ _ => .ok (.tup vs) h) l) vs
noncomputable def resAll (h : H) (env : TV) (rs : List XRes) : List AV → RV :=
  List.rec (motive := fun _ => List AV → RV) (fun acc => tupR h acc.reverse) (fun r _ ih acc => resOf r h env fun v => ih (v :: acc)) rs
noncomputable def fnEnd (rs : List XRes) (r : RC) : RV :=
  RC.rec (motive := fun _ => RV) .fail (fun r a b => .need r a b) (fun e env h => Ex.rec (motive := fun _ => RV) (resAll h env rs []) (fun _ => .fail) (fun _ => .fail) (resAll h env rs []) e) r
/-- what is known of functions: their texts; what some come to -/
structure Known where
  fn : Nat → XFunc
  spec : Nat → Option (List AV → H → RV)
  D : Dec
noncomputable def runF (K : Known) (cx : Cx) (f : Nat) (as : List AV) (h : H) : RV :=
  Option.rec (motive := fun _ => RV) (fnEnd (K.fn f).results (evC (K.fn f).body cx (setPs (K.fn f).params as .lf) h)) (fun s => s as h) (K.spec f)
def runY (cx : Cx) (l : Ps) (as : List AV) (h : H) : RV :=
  match TB.get l h.t with
  | .loop 0 _ env ps a b =>
    match Nat.beq (lenL as) ps.length with
    | false => .fail
    | true =>
    match evC a cx (setPs ps as env) h with
    | .need r x y => .need r x y
    | .ok .normal env' h =>
      (match TB.get l h.t with
      | .loop 0 q env0 ps1 a1 b1 =>
        match evC b cx env' (h.put l (.loop 1 q env0 ps1 a1 b1)) with
        | .need r x y => .need r x y
        | .ok e _ h =>
          (match TB.get l h.t with
          | .loop 1 _ env0 ps2 a2 b2 => (match e with
            | .normal => .ok (.bool .t) (h.put l (.loop 0 .normal env0 ps2 a2 b2))
            | e => .ok (.bool .f) (h.put l (.loop 2 e env0 ps2 a2 b2)))
          | _ => .fail)
        | .fail => .fail
      | _ => .fail)
    | _ => .fail
  | _ => .fail
noncomputable def callOn (K : Known) (cx : Cx) (as : List AV) (h : H) (v : AV) : RV :=
  AV.rec (motive_1 := fun _ => RV) (motive_2 := fun _ => RV) (fun _ => .fail) (fun _ _ => .fail) (fun _ _ => .fail) (fun _ => .fail) (fun _ _ => .fail) (.fail) (fun _ _ _ _ _ _ => .fail) (.fail) (fun _ => .fail) (.fail) (fun f fs cs _ _ => runF K cx f (appL fs (appL as cs)) h) (fun l => runY cx l as h) (.fail) (fun _ _ _ => .fail) (.fail) (fun _ _ => .fail) (fun _ _ => .fail) (fun _ => .fail) (.fail) (.fail) (.fail) (fun _ _ _ _ => .fail) v
def callZ : Known → Call := fun _ _ _ _ => .fail
def codeZ : Known → XCode → TV → H → RC := fun _ _ _ _ => .fail
def callS (_ : Nat) (ih : Known → Cx) : Known → Cx := fun K => ⟨fun f as h => callOn K (ih K) as h f, fun c env h => evC c (ih K) env h, K.D⟩
noncomputable def cxN (n : Nat) : Known → Cx := Nat.rec (motive := fun _ => Known → Cx) (fun K => ⟨callZ K, codeZ K, K.D⟩) callS n
def run (K : Known) (n f : Nat) (as : List AV) (h : H) : RV := (cxN n K).call (.func f [] []) as h
end SX
end
