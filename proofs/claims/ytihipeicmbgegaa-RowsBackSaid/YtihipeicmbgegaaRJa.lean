/- A reading of Go's code as a function over plain data (trees), with no memory in it: the definitions. No conditions. -/
import Derived.Calls
import Derived.Orders
import Derived.Below
import Derived.OpenShut
import Derived.Deep.MidRow
import Derived.Laws.MakeOwn
import Derived.Laws.OwnMore
namespace Go.Proofs.Ytihipeicmbgegaa.Rf
open Go
set_option linter.unusedVariables false

/-- Data: what a value says, without addresses. -/
inductive G where
  | int (k : IntKind) (n : Int)
  | bool (b : Bool)
  | str (l : List UInt8)
  | tu (gs : List G)
  | sl (es : List G)
  deriving Inhabited
namespace G
def toInt : G → Int | .int _ n => n | _ => 0
def toBool : G → Bool | .bool b => b | _ => false
def toStr : G → List UInt8 | .str l => l | _ => []
def toList : G → List G | .sl l => l | _ => []
def parts : G → List G | .tu l => l | _ => []
def fld (g : G) (i : Nat) : G := g.parts.getD i default
end G
/-- What is known of a type. -/
inductive Ty where
  | int (k : IntKind) | bool | str | tu (ts : List TypeId) | arr (n : Nat) (e : TypeId) | sl (e : TypeId) | other
  deriving Inhabited
def cnd {α : Type} : Bool → α → α → α
  | true, x, _ => x
  | false, _, y => y
def cat {α : Type} : List α → List α → List α
  | [], b => b
  | x :: a, b => x :: cat a b
def mp {α β : Type} (f : α → β) : List α → List β
  | [] => []
  | x :: a => f x :: mp f a
def nth {α : Type} (d : α) : List α → Nat → α
  | [], _ => d
  | x :: _, 0 => x
  | _ :: a, n + 1 => nth d a n
def has : List Nat → Nat → Bool
  | [], _ => false
  | x :: a, n => Nat.beq x n || has a n
def every {α : Type} (f : α → Bool) : List α → Bool
  | [] => true
  | x :: a => f x && every f a
def look {α : Type} : List (Nat × α) → Nat → Option α
  | [], _ => none
  | (k, v) :: r, n => cnd (Nat.beq k n) (some v) (look r n)
def atL {α : Type} : List α → Nat → Option α
  | [], _ => none
  | x :: _, 0 => some x
  | _ :: a, n + 1 => atL a n
/-- The types that are known. -/
abbrev Tab := List (Nat × Ty)
def ty (P : Tab) (t : TypeId) : Ty := (look P t).getD .other
/-- The zero of a type. -/
def zero (P : Tab) : Nat → TypeId → G
  | 0, _ => default
  | d + 1, t => match ty P t with
    | .int k => .int k 0
    | .bool => .bool false
    | .str => .str []
    | .tu ts => .tu (ts.map (zero P d))
    | .arr n e => .tu (List.replicate n (zero P d e))
    | .sl _ => .sl []
    | _ => default
def known (T : Tab) (t : TypeId) : Bool :=
  match ty T t with
  | .other => false
  | _ => true
def deep : Nat := 12
def most : Nat := 68719476736
/-- The value of a slot. -/
inductive AV where
  | undef
  | no
  | int (k : IntKind) (n : Int)
  | bool (b : Bool)
  | str (l : List UInt8)
  | agg (t : TypeId) (g : G)
  | sl (e : TypeId) (es : List G)
  | emp
  | row (o : Nat)
  | ptr (o : Nat) (t : TypeId) (p : List Nat)
  | ro (t : TypeId) (g : G)
  | fn (f : FuncId) (caps : List AV)
  | tup (vs : List AV)
  deriving Inhabited
/-- Whose an object is: the call's own; another's, handed in by pointer; shared by now, and it stays as it is. -/
inductive Md where
  | own | ref | fz
  deriving Inhabited
/-- An object: a variable; the row under a slice; one that is gone. -/
inductive Obj where
  | var (t : TypeId) (g : G) (m : Md)
  | row (e : TypeId) (es : List G) (m : Md)
  | dead
  deriving Inhabited
/-- An argument. -/
inductive A where
  | val (g : G)
  | ref (t : TypeId) (g : G)
  | ro (t : TypeId) (g : G)
  | fn (f : FuncId) (caps : List A)
  deriving Inhabited
abbrev R := G × List G
structure Env where
  P : Program
  T : Tab
  call : FuncId → List A → Option R
  own : FuncId → Option Nat
  nt : Nat
abbrev Heap := List (Nat × Obj)
structure St where
  tm : List (Nat × AV)
  hp : Heap
def put {α : Type} : List (Nat × α) → Nat → α → List (Nat × α)
  | [], n, x => [(n, x)]
  | (k, v) :: r, n, x => cnd (Nat.beq k n) ((n, x) :: r) (cnd (Nat.blt n k) ((n, x) :: (k, v) :: r) ((k, v) :: put r n x))
/-- What is known of a slot, said in another way. -/
def said {α : Type} : List (Nat × α) → Nat → α → List (Nat × α)
  | [], _, _ => []
  | (k, v) :: r, n, x => cnd (Nat.beq k n) ((k, x) :: r) ((k, v) :: said r n x)
def view (P : Tab) (t : TypeId) (g : G) : AV :=
  match ty P t with
  | .int k => .int k g.toInt
  | .bool => .bool g.toBool
  | .str => .str g.toStr
  | .tu _ => .agg t g
  | .arr _ _ => .agg t g
  | .sl e => .sl e g.toList
  | _ => .undef
def constAV : Value → AV
  | .int k n => .int k n
  | .bool b => .bool b
  | .string s => .str s.data.toList
  | .slice none 0 0 => .emp
  | _ => .undef
def getOp (tm : List (Nat × AV)) : Operand → AV
  | .tmp t => (look tm t).getD .undef
  | .const v => constAV v
  | .func f => .fn f []
  | .global _ => .undef
/-- The part p of data, and with another one in its place. -/
def getP (g : G) : List Nat → G
  | [] => g
  | i :: p => getP (g.fld i) p
def setP (g : G) (x : G) : List Nat → G
  | [] => x
  | i :: p => .tu (g.parts.set i (setP (g.fld i) x p))
def kno : IntKind → Nat
  | .i8 => 0 | .i16 => 1 | .i32 => 2 | .i64 => 3 | .u8 => 4 | .u16 => 5 | .u32 => 6 | .u64 => 7
def eqK (k k' : IntKind) : Bool := Nat.beq (kno k) (kno k')
/-- The data in a value of a slot, of the type t. -/
def conv (P : Tab) (H : Nat → Option Obj) (t : TypeId) : AV → Option G
  | .int k n => match ty P t with | .int k' => cnd (eqK k k') (some (.int k n)) none | _ => none
  | .bool b => match ty P t with | .bool => some (.bool b) | _ => none
  | .str l => match ty P t with | .str => some (.str l) | _ => none
  | .agg t' g => cnd (Nat.beq t t') (some g) none
  | .sl e es => match ty P t with | .sl e' => cnd (Nat.beq e e') (some (.sl es)) none | _ => none
  | .emp => match ty P t with | .sl _ => some (.sl []) | _ => none
  | .row o => match H o, ty P t with | some (.row e es .own), .sl e' => cnd (Nat.beq e e') (some (.sl es)) none | some (.row e es .fz), .sl e' => cnd (Nat.beq e e') (some (.sl es)) none | _, _ => none
  | _ => none
abbrev Ws := List (Nat × Obj)
/-- What is shared from now on. -/
def share (H : Nat → Option Obj) : AV → Ws
  | .row o => match H o with | some (.row e es .own) => [(o, .row e es .fz)] | _ => []
  | _ => []
mutual
/-- Objects that a value of a slot speaks of. -/
def refs : AV → List Nat
  | .row o => [o]
  | .ptr o _ _ => [o]
  | .fn _ caps => refsL caps
  | .tup vs => refsL vs
  | _ => []
def refsL : List AV → List Nat
  | [] => []
  | a :: r => cat (refs a) (refsL r)
end
/-- What is behind the pointer that a closure has taken. -/
def capt (H : Nat → Option Obj) : AV → Option (A × Ws)
  | .ptr o t [] => match H o with
    | some (.var t' g .own) => cnd (Nat.beq t t') (some (.ro t g, [(o, .var t g .fz)])) none
    | some (.var t' g .fz) => cnd (Nat.beq t t') (some (.ro t g, [])) none
    | _ => none
  | .ro t g => some (.ro t g, [])
  | _ => none
def capts (H : Nat → Option Obj) : List AV → Option (List A × Ws)
  | [] => some ([], [])
  | a :: r => match capt H a, capts H r with
    | some (x, w), some (xs, ws) => some (x :: xs, cat w ws)
    | _, _ => none
/-- One argument: itself; what is shared by it; the object that is handed on by it. -/
def arg (P : Tab) (H : Nat → Option Obj) (t : TypeId) (v : AV) : Option (A × Ws × List (Nat × TypeId)) :=
  match v with
  | .ptr o t' [] => match H o with
    | some (.var t0 g .own) => cnd (Nat.beq t' t0) (some (.ref t0 g, [], [(o, t0)])) none
    | some (.var t0 g .ref) => cnd (Nat.beq t' t0) (some (.ref t0 g, [], [(o, t0)])) none
    | some (.var t0 g .fz) => cnd (Nat.beq t' t0) (some (.ro t0 g, [], [])) none
    | _ => none
  | .ro t' g => some (.ro t' g, [], [])
  | .fn f caps => match capts H caps with
    | some (xs, ws) => some (.fn f xs, ws, [])
    | none => none
  | v => match conv P H t v with
    | some g => some (.val g, share H v, [])
    | none => none
def args (P : Tab) (H : Nat → Option Obj) : List TypeId → List AV → Option (List A × Ws × List (Nat × TypeId))
  | [], [] => some ([], [], [])
  | t :: ts, v :: vs => match arg P H t v, args P H ts vs with
    | some (a, w, o), some (as, ws, os) => some (a :: as, cat w ws, cat o os)
    | _, _ => none
  | _, _ => none
/-- Does a type hold no slices? -/
def flat (P : Tab) : Nat → TypeId → Bool
  | 0, _ => false
  | d + 1, t => match ty P t with
    | .int _ => true
    | .bool => true
    | .str => true
    | .tu ts => every (flat P d) ts
    | .arr _ e => flat P d e
    | _ => false
/-- May data of a type be held against each other? -/
def cmpT (P : Tab) : Nat → TypeId → Bool
  | 0, _ => false
  | d + 1, t => match ty P t with
    | .int _ => true
    | .bool => true
    | .str => true
    | .tu ts => every (cmpT P d) ts
    | _ => false
/-- Are two data of a type the same? -/
def sameL (f : TypeId → G → G → Bool) : Nat → List TypeId → G → G → Bool
  | _, [], _, _ => true
  | i, [t], g, h => f t (g.fld i) (h.fld i)
  | i, t :: ts, g, h => f t (g.fld i) (h.fld i) && sameL f (i + 1) ts g h
def same (P : Tab) : Nat → TypeId → G → G → Bool
  | 0, _, _, _ => false
  | d + 1, t, g, h => match ty P t with
    | .int _ => decide (g.toInt = h.toInt)
    | .bool => g.toBool == h.toBool
    | .str => decide (g.toStr = h.toStr)
    | .tu ts => sameL (same P d) 0 ts g h
    | _ => false
variable {α : Type}
def intOp (op : BinOp) (k : IntKind) (x : Int) (k' : IntKind) (y : Int) (K : AV → Option α) : Option α :=
  match op with
  | .shl => cnd (decide (y < 0)) none (K (.int k (k.wrap (x * 2 ^ min y.toNat k.bits))))
  | .shr => cnd (decide (y < 0)) none (K (.int k (x.fdiv (2 ^ min y.toNat k.bits))))
  | .add => cnd (eqK k k') (K (.int k (k.wrap (x + y)))) none
  | .sub => cnd (eqK k k') (K (.int k (k.wrap (x - y)))) none
  | .mul => cnd (eqK k k') (K (.int k (k.wrap (x * y)))) none
  | .quo => cnd (eqK k k') (cnd (decide (y = 0)) none (K (.int k (k.wrap (x.tdiv y))))) none
  | .rem => cnd (eqK k k') (cnd (decide (y = 0)) none (K (.int k (x.tmod y)))) none
  | .and => cnd (eqK k k') (K (.int k (k.wrap (BitVec.ofInt k.bits x &&& BitVec.ofInt k.bits y).toNat))) none
  | .or => cnd (eqK k k') (K (.int k (k.wrap (BitVec.ofInt k.bits x ||| BitVec.ofInt k.bits y).toNat))) none
  | .xor => cnd (eqK k k') (K (.int k (k.wrap (BitVec.ofInt k.bits x ^^^ BitVec.ofInt k.bits y).toNat))) none
  | .andNot => cnd (eqK k k') (K (.int k (k.wrap (BitVec.ofInt k.bits x &&& ~~~ BitVec.ofInt k.bits y).toNat))) none
  | .eql => cnd (eqK k k') (K (.bool (decide (x = y)))) none
  | .neq => cnd (eqK k k') (K (.bool (!decide (x = y)))) none
  | .lss => cnd (eqK k k') (K (.bool (decide (x < y)))) none
  | .leq => cnd (eqK k k') (K (.bool (decide (x ≤ y)))) none
  | .gtr => cnd (eqK k k') (K (.bool (decide (y < x)))) none
  | .geq => cnd (eqK k k') (K (.bool (decide (y ≤ x)))) none
def strOp (op : BinOp) (x y : List UInt8) (K : AV → Option α) : Option α :=
  match op with
  | .add => cnd (decide (x.length + y.length ≤ most)) (K (.str (x ++ y))) none
  | .eql => K (.bool (decide (x = y)))
  | .neq => K (.bool (!decide (x = y)))
  | .lss => K (.bool (Op.bytesLess x y))
  | .leq => K (.bool (Op.bytesLess x y || decide (x = y)))
  | .gtr => K (.bool (!(Op.bytesLess x y || decide (x = y))))
  | .geq => K (.bool (!Op.bytesLess x y))
  | _ => none
def boolOp (P : Tab) (op : BinOp) (xt : TypeId) (a b : Bool) (K : AV → Option α) : Option α :=
  match ty P xt, op with
  | .bool, .eql => K (.bool (a == b))
  | .bool, .neq => K (.bool (!(a == b)))
  | _, _ => none
def aggOp (P : Tab) (op : BinOp) (xt t : TypeId) (g : G) (t' : TypeId) (h : G) (K : AV → Option α) : Option α :=
  cnd (Nat.beq t xt && Nat.beq t' xt && cmpT P deep xt) (match op with
    | .eql => K (.bool (same P deep xt g h))
    | .neq => K (.bool (!same P deep xt g h))
    | _ => none) none
def binOp (P : Tab) (op : BinOp) (xt : TypeId) (x y : AV) (K : AV → Option α) : Option α :=
  match x, y with
  | .int k a, .int k' b => intOp op k a k' b K
  | .str a, .str b => strOp op a b K
  | .bool a, .bool b => boolOp P op xt a b K
  | .agg t g, .agg t' h => aggOp P op xt t g t' h K
  | _, _ => none
def unOp (op : UnOp) (x : AV) (K : AV → Option α) : Option α :=
  match op, x with
  | .neg, .int k n => K (.int k (k.wrap (0 - n)))
  | .not, .bool b => K (.bool (!b))
  | .xor, .int k n => K (.int k (k.wrap (BitVec.ofInt k.bits (if k.signed then -1 else k.max) ^^^ BitVec.ofInt k.bits n).toNat))
  | _, _ => none
/-- Parts put into data. -/
def puts (P : Tab) (H : Nat → Option Obj) (v : Operand → AV) (T : Nat → Option TypeId) : List (Nat × Operand) → List G → Option (List G × Ws)
  | [], gs => some (gs, [])
  | (i, x) :: r, gs => match T i with
    | none => none
    | some t => match conv P H t (v x), puts P H v T r (gs.set i ((conv P H t (v x)).getD default)) with
      | some _, some (gs', ws) => some (gs', cat (share H (v x)) ws)
      | _, _ => none
/-- The elements of a slice. -/
def elems (H : Nat → Option Obj) (e : TypeId) : AV → Option (List G)
  | .sl e' es => cnd (Nat.beq e e') (some es) none
  | .emp => some []
  | .row o => match H o with
    | some (.row e' es _) => cnd (Nat.beq e e') (some es) none
    | _ => none
  | _ => none
/-- A number that is not in use. -/
def anew (H : Nat → Option Obj) (d : Nat) (x : Option α) : Option α :=
  match H d with
  | none => x
  | some _ => none
def append (P : Tab) (H : Nat → Option Obj) (d : Nat) (st : TypeId) (s x : AV) (K : AV → Ws → Option α) : Option α :=
  match ty P st with
  | .sl e =>
    match cnd (known P e) (elems H e x) none with
    | none => none
    | some ys => match s with
      | .emp => cnd (decide (ys.length ≤ most)) (anew H d (K (.row d) [(d, .row e ys .own)])) none
      | .row o => match H o with
        | some (.row e' es .own) => cnd (Nat.beq e e') (cnd (decide (es.length + ys.length ≤ most)) (anew H d (K (.row d) [(o, .dead), (d, .row e (es ++ ys) .own)])) none) none
        | _ => none
      | _ => none
  | _ => none
def objG : Obj → Option G
  | .var _ g _ => some g
  | .row _ es _ => some (.tu es)
  | .dead => none
def notRow (o : Nat) : AV → Bool
  | .row o' => !Nat.beq o o'
  | _ => true
def objPut : Obj → G → Option Obj
  | .var t _ .own, g => some (.var t g .own)
  | .var t _ .ref, g => some (.var t g .ref)
  | .row e _ .own, g => some (.row e g.parts .own)
  | .row e _ .ref, g => some (.row e g.parts .ref)
  | _, _ => none
def fieldT (P : Tab) (t : TypeId) (i : Nat) : Option TypeId :=
  match ty P t with
  | .tu ts => atL ts i
  | _ => none
/-- What a call's results are, to the caller. -/
def isOwn (P : Tab) (own : Option Nat) (i : Nat) (t : TypeId) : Bool :=
  match own, ty P t with
  | some j, .sl _ => Nat.beq i j
  | _, _ => false
def viewOne (P : Tab) (d : Nat) (own : Option Nat) (i : Nat) (t : TypeId) (g : G) : AV := cnd (isOwn P own i t) (.row d) (view P t g)
def views (P : Tab) (d : Nat) (own : Option Nat) (g : G) : Nat → List TypeId → List AV
  | _, [] => []
  | i, t :: ts => viewOne P d own i t (g.fld i) :: views P d own g (i + 1) ts
def partG (ts : List TypeId) (g : G) (j : Nat) : G :=
  match ts with
  | [_] => g
  | _ => g.fld j
def ownWs (P : Tab) (d : Nat) (own : Option Nat) (ts : List TypeId) (g : G) : Ws :=
  match own with
  | none => []
  | some j => match atL ts j with
    | none => []
    | some t => match ty P t with
      | .sl e => [(d, .row e (partG ts g j).toList .own)]
      | _ => []
def viewR (P : Tab) (d : Nat) (own : Option Nat) (ts : List TypeId) (g : G) : AV × Ws :=
  (match ts with
    | [t] => viewOne P d own 0 t g
    | ts => .tup (views P d own g 0 ts), ownWs P d own ts g)
def finals : List (Nat × TypeId) → List G → (Nat → Option Obj) → Ws
  | (o, t) :: os, gs, H => cat (match H o with | some (.var _ _ m) => [(o, .var t (gs.headD default) m)] | _ => []) (finals os gs.tail H)
  | [], _, _ => []
def distinct : List Nat → Bool
  | [] => true
  | x :: r => !has r x && distinct r
def viewOk (own : Option Nat) (H : Nat → Option Obj) (d : Nat) (x : Option α) : Option α :=
  match own with
  | none => x
  | some _ => anew H d x
def noObjs : List (Nat × TypeId) → Bool
  | [] => true
  | _ => false
def call (E : Env) (H : Nat → Option Obj) (d : Nat) (f : FuncId) (vs : List AV) (K : AV → Ws → Option α) : Option α :=
  match atL E.P.funcs.toList f with
  | none => none
  | some fn => match fn.body, args E.T H (cat fn.params.toList (List.replicate fn.nfree 0)) vs with
    | some _, some (as, ws, os) => cnd (distinct (mp (·.1) os) && every (fun w => !has (mp (·.1) os) w.1) ws)
        (match E.call f as with
          | none => none
          | some r => viewOk (E.own f) H d (K (viewR E.T d (E.own f) fn.resultTypes.toList r.1).1 (cat (cnd (every (flat E.T deep) fn.resultTypes.toList && noObjs os) [] ws) (cat (finals os r.2 H) (viewR E.T d (E.own f) fn.resultTypes.toList r.1).2)))) none
    | _, _ => none
def sub (l : List α) (lo hi : Int) : List α := (l.take hi.toNat).drop lo.toNat
def numD (v : Operand → AV) (dflt : Int) : Option Operand → Option Int
  | none => some dflt
  | some x => match v x with | .int _ n => some n | _ => none
def slice (P : Tab) (H : Nat → Option Obj) (t : TypeId) (x : AV) (lo hi mx : Option Operand) (v : Operand → AV) (K : AV → Ws → Option α) : Option α :=
  match mx with
  | some _ => none
  | none => match ty P t, x with
    | .str, .str l => match numD v 0 lo, numD v l.length hi with
      | some a, some b => cnd (decide (0 ≤ a) && (decide (a ≤ b) && decide (b ≤ l.length))) (K (.str (sub l a b)) []) none
      | _, _ => none
    | .sl e, x => match elems H e x with
      | some es => match numD v 0 lo, numD v es.length hi with
        | some a, some b => cnd (decide (0 ≤ a) && (decide (a ≤ b) && decide (b ≤ es.length))) (K (.sl e (sub es a b)) (share H x)) none
        | _, _ => none
      | none => none
    | _, _ => none
def lenOp (T : Tab) (H : Nat → Option Obj) (t : TypeId) (x : AV) (K : Int → Option α) : Option α :=
  match ty T t, x with
  | .str, .str l => K l.length
  | .sl _, .emp => K 0
  | .sl _, .sl _ es => K es.length
  | .sl _, .row o => match H o with
    | some (.row _ es .own) => K es.length
    | some (.row _ es .fz) => K es.length
    | _ => none
  | _, _ => none
def isNilC : Operand → Bool
  | .const (.slice none 0 0) => true
  | _ => false
def assignOp (T : Tab) (H : Nat → Option Obj) (d : Nat) (t : TypeId) (n : Bool) (x : AV) (K : AV → Ws → Option α) : Option α :=
  match n, ty T t with
  | true, .sl e => anew H d (K (.row d) [(d, .row e [] .own)])
  | _, _ => K x []
/-- What an operation makes: the value of its slot, and the objects that it turns. -/
def core (E : Env) (H : Nat → Option Obj) (v : Operand → AV) (d : Nat) (t : TypeId) (op : Op) (K : AV → Ws → Option α) : Option α :=
  match op with
  | .move x => K (v x) []
  | .assign x => assignOp E.T H d t (isNilC x) (v x) K
  | .pick c a b => match v c with
    | .bool c => cnd c (K (v a) []) (K (v b) [])
    | _ => none
  | .alloc e => cnd (known E.T e) (anew H d (K (.ptr d e []) [(d, .var e (zero E.T deep e) .own)])) none
  | .box e x => match conv E.T H e (v x) with
    | some g => anew H d (K (.ptr d e []) (cat (share H (v x)) [(d, .var e g .own)]))
    | none => none
  | .build t' ps => match ty E.T t' with
    | .tu ts => match puts E.T H v (atL ts) ps.toList (zero E.T deep t').parts with
      | some (gs, ws) => K (.agg t' (.tu gs)) ws
      | none => none
    | .arr n e => match puts E.T H v (fun i => cnd (Nat.blt i n) (some e) none) ps.toList (zero E.T deep t').parts with
      | some (gs, ws) => K (.agg t' (.tu gs)) ws
      | none => none
    | _ => none
  | .buildSlice t' n ps => match ty E.T t' with
    | .sl e => match puts E.T H v (fun i => cnd (Nat.blt i n) (some e) none) ps.toList (List.replicate n (zero E.T deep e)) with
      | some (gs, ws) => cnd (known E.T e && Nat.ble n 4096) (anew H d (K (.row d) (cat ws [(d, .row e gs .own)]))) none
      | none => none
    | _ => none
  | .load t' x => match v x with
    | .ptr o t'' p => cnd (Nat.beq t' t'') (match (H o).bind objG with
      | some g => K (view E.T t' (getP g p)) []
      | none => none) none
    | .ro t'' g => cnd (Nat.beq t' t'') (K (view E.T t' g) []) none
    | _ => none
  | .store t' x y => match v x with
    | .ptr o t'' p => cnd (Nat.beq t' t'' && notRow o (v y)) (match H o, conv E.T H t' (v y) with
      | some ob, some g => match objG ob with
        | some g0 => match objPut ob (setP g0 g p) with
          | some ob' => K .undef (cat (share H (v y)) [(o, ob')])
          | none => none
        | none => none
      | _, _ => none) none
    | _ => none
  | .nilCheck x => match v x with
    | .ptr o t p => K (.ptr o t p) []
    | .ro t g => K (.ro t g) []
    | .fn f cs => K (.fn f cs) []
    | _ => none
  | .binOp op xt x y _ => binOp E.T op xt (v x) (v y) fun a => K a []
  | .unOp op _ x => unOp op (v x) fun a => K a []
  | .convert src dst x => match ty E.T src, ty E.T dst, v x with
    | .int _, .int k', .int _ n => K (.int k' (k'.wrap n)) []
    | .str, .str, .str l => K (.str l) []
    | .str, .sl e, .str l => match ty E.T e with
      | .int .u8 => K (.sl e (l.map fun (b : UInt8) => G.int .u8 b.toNat)) []
      | _ => none
    | .sl e, .str, x => match ty E.T e, elems H e x with
      | .int .u8, some es => K (.str (es.map fun g => UInt8.ofNat g.toInt.toNat)) []
      | _, _ => none
    | _, _, _ => none
  | .makeSlice t' l c => match ty E.T t', v l, v c with
    | .sl e, .int _ l, .int _ c => cnd (known E.T e && (decide (0 ≤ l) && decide (l ≤ c) && decide (c ≤ most))) (anew H d (K (.row d) [(d, .row e (List.replicate l.toNat (zero E.T deep e)) .own)])) none
    | _, _, _ => none
  | .slice t' x lo hi mx => slice E.T H t' (v x) lo hi mx v K
  | .fieldAddr s x f => match fieldT E.T s f with
    | none => none
    | some ft => match v x with
      | .ptr o t' p => cnd (Nat.beq s t') (K (.ptr o ft (cat p [f])) []) none
      | .ro t' g => cnd (Nat.beq s t') (K (.ro ft (g.fld f)) []) none
      | _ => none
  | .field s x f => match fieldT E.T s f with
    | none => none
    | some ft => match v x with
      | .agg t' g => cnd (Nat.beq s t') (K (view E.T ft (g.fld f)) []) none
      | _ => none
  | .indexAddr t' x i => match v i with
    | .int _ n => match v x, ty E.T t' with
      | .sl e es, .sl e' => cnd (Nat.beq e e') (cnd (decide (0 ≤ n) && decide (n < es.length)) (K (.ro e (es.getD n.toNat default)) []) none) none
      | .row o, .sl e' => match H o with
        | some (.row e es _) => cnd (Nat.beq e e') (cnd (decide (0 ≤ n) && decide (n < es.length)) (K (.ptr o e [n.toNat]) []) none) none
        | _ => none
      | .ptr o t'' p, .arr m e => cnd (Nat.beq t' t'') (cnd (decide (0 ≤ n) && decide (n < (m : Int))) (K (.ptr o e (cat p [n.toNat])) []) none) none
      | .ro t'' g, .arr m e => cnd (Nat.beq t' t'') (cnd (decide (0 ≤ n) && decide (n < (m : Int))) (K (.ro e (g.fld n.toNat)) []) none) none
      | _, _ => none
    | _ => none
  | .index t' x i => match v i with
    | .int _ n => match v x, ty E.T t' with
      | .str l, .str => cnd (decide (0 ≤ n) && decide (n < l.length)) (K (.int .u8 (l.getD n.toNat 0).toNat) []) none
      | .agg t'' g, .arr m e => cnd (Nat.beq t' t'') (cnd (decide (0 ≤ n) && decide (n < (m : Int))) (K (view E.T e (g.fld n.toNat)) []) none) none
      | _, _ => none
    | _ => none
  | .extract x i => match v x with
    | .tup vs => match atL vs i with
      | some x => K x []
      | none => none
    | _ => none
  | .makeFunc (.func f) first cs => cnd (Nat.beq first.size 0) (K (.fn f (mp v cs.toList)) []) none
  | .call c => match c.callee with
    | .builtin .len => match mp v c.args.toList, c.argTypes.toList with
      | [x], [t'] => lenOp E.T H t' x fun n => K (.int .i64 n) []
      | _, _ => none
    | .builtin .append => match mp v c.args.toList, c.argTypes.toList with
      | [s, x], [st, xt] => cnd (Nat.beq st xt) (append E.T H d st s x K) none
      | _, _ => none
    | .builtin .max => match mp v c.args.toList with
      | [.int k a, .int _ b] => K (.int k (if b > a then b else a)) []
      | _ => none
    | .builtin .min => match mp v c.args.toList with
      | [.int k a, .int _ b] => K (.int k (if b < a then b else a)) []
      | _ => none
    | .builtin _ => none
    | .value f => match v f with
      | .fn g cs => call E H d g (cat (mp v c.args.toList) cs) K
      | _ => none
    | _ => none
  | _ => none
end Go.Proofs.Ytihipeicmbgegaa.Rf

namespace Go.Proofs.Ytihipeicmbgegaa.Rf
open Go
set_option linter.unusedVariables false
variable {α : Type}
/-! ## which slots are read later -/
def bit (n : Nat) : Nat := Nat.shiftLeft 1 n
def tb (m n : Nat) : Bool := Nat.beq (Nat.land (Nat.shiftRight m n) 1) 1
def opndBit : Operand → Nat
  | .tmp t => bit t
  | _ => 0
def usesOf (o : Oper) : Nat := o.op.operands.toList.foldl (fun m x => Nat.lor m (opndBit x)) 0
def guardBit (all : List Oper) (o : Oper) : Nat :=
  match o.guard with
  | some (j, _) => (match (atL all j).bind (·.dst) with | some d => bit d | none => 0)
  | none => 0
def offBit (m n : Nat) : Nat := cnd (tb m n) (Nat.sub m (bit n)) m
/-- Slots that are read from a list of operations on, if those of m are read behind it. -/
def liveOps (ops : List Oper) : List Oper → Nat → Nat
  | [], m => m
  | o :: r, m => Nat.lor (match o.dst with | some d => offBit (liveOps ops r m) d | none => liveOps ops r m)
      (Nat.lor (usesOf o) (guardBit ops o))
def live (rt : Nat) : Code → List (Nat × Nat) → Nat → Nat
  | .skip, _, m => m
  | .region _ ops _, _, m => liveOps ops.toList ops.toList m
  | .seq a b, ex, m => live rt a ex (live rt b ex m)
  | .cond c a b, ex, m => Nat.lor (opndBit c) (Nat.lor (live rt a ex m) (live rt b ex m))
  | .block id c, ex, m => live rt c ((id, m) :: ex) m
  | .loop c, ex, _ => live rt c ex (live rt c ex 0)
  | .exit id, ex, _ => (look ex id).getD 0
  | .ret, _, _ => rt
  | _, _, _ => 0
/-! ## what is not read later is dropped -/
def keep (m : Nat) : List (Nat × AV) → List (Nat × AV)
  | [] => []
  | (k, v) :: r => cnd (tb m k) ((k, v) :: keep m r) (keep m r)
def allRefs : List (Nat × AV) → List Nat
  | [] => []
  | (_, v) :: r => cat (refs v) (allRefs r)
def isRef : Obj → Bool
  | .var _ _ .ref => true
  | .row _ _ .ref => true
  | _ => false
def isRefAt (h : Heap) (k : Nat) : Bool :=
  match look h k with
  | some o => isRef o
  | none => false
def without {α : Type} (f : Nat → Bool) : List (Nat × α) → List (Nat × α)
  | [] => []
  | p :: r => cnd (f p.1) (without f r) (p :: without f r)
def keepObjs (l : List Nat) (h : Heap) : Heap := without (fun k => !(has l k || isRefAt h k)) h
mutual
def rename (a b : Nat) : AV → AV
  | .row o => .row (cnd (Nat.beq o a) b o)
  | .ptr o t p => .ptr (cnd (Nat.beq o a) b o) t p
  | .fn f cs => .fn f (renameL a b cs)
  | .tup vs => .tup (renameL a b vs)
  | v => v
def renameL (a b : Nat) : List AV → List AV
  | [] => []
  | v :: r => rename a b v :: renameL a b r
end
def renameT (a b : Nat) (l : List (Nat × AV)) : List (Nat × AV) := mp (fun p => (p.1, rename a b p.2)) l
def renameH (a b : Nat) : Heap → Option Obj → Heap
  | l, some o => put (without (fun k => Nat.beq k a) l) b o
  | l, none => l
/-- Does a slot hold the row of its own number? -/
def holdsOwn (s : St) (o : Nat) : Bool :=
  match look s.tm o with
  | some (.row o') => Nat.beq o o'
  | _ => false
/-- A row bears the number of the first slot that holds it. -/
def nameOne (t : Nat) (v : AV) (s : St) : St :=
  match v with
  | .row o => cnd (Nat.beq t o || (look s.hp t).isSome || holdsOwn s o) s
      (match look s.tm t with
        | some (.row o') => cnd (Nat.beq o o') { tm := renameT o t s.tm, hp := renameH o t s.hp (look s.hp o) } s
        | _ => s)
  | _ => s
def names : List (Nat × AV) → St → St
  | [], s => s
  | (t, v) :: r, s => names r (nameOne t v s)
def clean (m : Nat) (s : St) : St :=
  names (keep m s.tm) { tm := keep m s.tm, hp := keepObjs (allRefs (keep m s.tm)) s.hp }
/-! ## a region -/
/-- Does an operation make an object (of its slot's number)? -/
def makes (E : Env) : Op → Bool
  | .alloc _ => true
  | .box .. => true
  | .buildSlice .. => true
  | .makeSlice .. => true
  | .assign x => isNilC x
  | .call c => match c.callee with
    | .builtin .append => true
    | .builtin _ => false
    | .value (.func f) => (E.own f).isSome
    | _ => false
  | _ => false
def news (E : Env) : List Oper → List Nat
  | [] => []
  | o :: r => match o.dst with
    | some d => cnd (makes E o.op) (d :: news E r) (news E r)
    | none => news E r
def meets (l : List Nat) (v : AV) : Bool := !every (fun o => !has l o) (refs v)
/-- What an earlier round left under the numbers that are to be given anew is dropped. -/
def fresh (l : List Nat) (s : St) : St :=
  { tm := mp (fun p => (p.1, cnd (meets l p.2) .undef p.2)) s.tm, hp := without (fun k => has l k) s.hp }
def wrAll : Ws → Heap → Heap
  | [], h => h
  | (o, x) :: r, h => wrAll r (put h o x)
def putD (tm : List (Nat × AV)) : Option Nat → AV → List (Nat × AV)
  | some d, v => put tm d v
  | none, _ => tm
/-- A row of the record: the operation; the objects that it has seen; those that it has turned. -/
abbrev Log := List (Nat × List Nat × List Nat)
def seenBy (s : St) (o : Oper) : List Nat := refsL (mp (getOp s.tm) o.op.operands.toList)
def inFrame (E : Env) : Option Nat → Bool
  | some d => Nat.blt d E.nt
  | none => true
/-- The number that is given to what an operation makes. -/
def numOf (E : Env) (o : Oper) : Nat := o.dst.getD E.nt
def oneOp (E : Env) (o : Oper) (s : St) (K : St → List Nat → Option α) : Option α :=
  core E (look s.hp) (getOp s.tm) (numOf E o) o.type o.op fun av ws =>
    cnd (every (fun r => has (seenBy s o) r || has (mp (·.1) ws) r) (refs av) && inFrame E o.dst) (K { tm := putD s.tm o.dst av, hp := wrAll ws s.hp } (mp (·.1) ws)) none
def ops (E : Env) (all : List Oper) : Nat → List Oper → Log → St → (St → Log → Option α) → Option α
  | _, [], log, s, K => K s log
  | i, o :: r, log, s, K =>
    match o.guard with
    | none => oneOp E o s fun s' ws => ops E all (i + 1) r ((i, numOf E o :: seenBy s o, ws) :: log) s' K
    | some (j, want) => match (atL all j).bind (·.dst) with
      | none => none
      | some dj => match look s.tm dj with
        | some (.bool b) => cnd b
          (match want with
            | true => oneOp E o { s with tm := said s.tm dj (.bool true) } fun s' ws => ops E all (i + 1) r ((i, numOf E o :: seenBy s o, ws) :: log) s' K
            | false => cnd (inFrame E o.dst) (ops E all (i + 1) r log { tm := putD (said s.tm dj (.bool true)) o.dst .no, hp := s.hp } K) none)
          (match want with
            | false => oneOp E o { s with tm := said s.tm dj (.bool false) } fun s' ws => ops E all (i + 1) r ((i, numOf E o :: seenBy s o, ws) :: log) s' K
            | true => cnd (inFrame E o.dst) (ops E all (i + 1) r log { tm := putD (said s.tm dj (.bool false)) o.dst .no, hp := s.hp } K) none)
        | some .no => cnd (inFrame E o.dst) (ops E all (i + 1) r log { tm := putD s.tm o.dst .no, hp := s.hp } K) none
        | _ => none
/-- What each operation waits for, and what that waits for. -/
def waitsOf (acc : List Nat) : List Edge → Nat
  | [] => 0
  | e :: r => cnd (Region.binds .any e) (Nat.lor (Nat.lor (bit e.on) (nth 0 acc e.on)) (waitsOf acc r)) (waitsOf acc r)
def waits : List Nat → List Oper → List Nat
  | acc, [] => acc
  | acc, o :: r => waits (cat acc [waitsOf acc o.after.toList]) r
def upto : Nat → List Nat
  | 0 => []
  | n + 1 => cat (upto n) [n]
def table (l : List Oper) : List (List Bool) := mp (fun m => mp (fun j => tb m j) (upto l.length)) (waits [] l)
def disj (a b : List Nat) : Bool := every (fun x => !has b x) a
/-- Does each operation wait for earlier ones alone? -/
def backs : Nat → List Oper → Bool
  | _, [] => true
  | i, o :: r => every (fun e => !Region.binds .any e || Nat.blt e.on i) o.after.toList && backs (i + 1) r
/-- May two operations, of which the later one does not wait for the other, come up in either order? -/
def apart (bf : List (List Bool)) (x y : Nat × List Nat × List Nat) : Bool :=
  nth false (nth [] bf x.1) y.1 || (disj x.2.2 y.2.1 && disj x.2.2 y.2.2 && disj y.2.2 x.2.1)
def logOk (bf : List (List Bool)) : Log → Bool
  | [] => true
  | x :: r => every (apart bf x) r && logOk bf r
def touches (all : List Oper) (x : Oper) (d : Option Nat) : Bool :=
  match d with
  | some d => tb (Nat.lor (usesOf x) (guardBit all x)) d || (match x.dst with | some d' => Nat.beq d d' | none => false)
  | none => false
/-- Of two operations that wait for none of the two, neither writes a slot of the other. -/
def slotsOkWith (all : List Oper) (m : List Bool) (y : Oper) : Nat → List Oper → Bool
  | _, [] => true
  | j, x :: r => (nth false m j || (!touches all x y.dst && !touches all y x.dst)) && slotsOkWith all m y (j + 1) r
def slotsOk (all : List Oper) (bf : List (List Bool)) (before : List Oper) : Nat → List Oper → Bool
  | _, [] => true
  | i, y :: r => slotsOkWith all (nth [] bf i) y 0 before && slotsOk all bf (cat before [y]) (i + 1) r
def region (E : Env) (all : List Oper) (draw : Bool) (s : St) (K : St → Option α) : Option α :=
  ops E all 0 all [] (fresh (news E all) s) fun s' log =>
    match draw with
    | false => K s'
    | true => cnd (backs 0 all && slotsOk all (table all) [] 0 all && logOk (table all) log) (K s') none
/-! ## code -/
/-- Code, with the slots that are read behind each place. -/
inductive AC where
  | skip (m : Nat)
  | region (ops : List Oper) (draw : Bool) (m : Nat)
  | seq (a b : AC)
  | cond (c : Operand) (a b : AC) (ma mb : Nat)
  | block (id : Nat) (c : AC)
  | loop (c : AC) (m : Nat) (p : List Nat)
  | exit (id m : Nat)
  | ret (m : Nat)
  | bad
def annot (rt : Nat) : Code → List (Nat × Nat) → Nat → List Nat → AC
  | .skip, _, m, _ => .skip m
  | .region _ ops d, _, m, _ => .region ops.toList d m
  | .seq a b, ex, m, p => .seq (annot rt a ex (live rt b ex m) (0 :: p)) (annot rt b ex m (1 :: p))
  | .cond c a b, ex, m, p => .cond c (annot rt a ex m (0 :: p)) (annot rt b ex m (1 :: p)) (live rt a ex m) (live rt b ex m)
  | .block id c, ex, m, p => .block id (annot rt c ((id, m) :: ex) m (1 :: p))
  | .loop c, ex, m, p => .loop (annot rt c ex (live rt (.loop c) ex m) (0 :: p)) (live rt (.loop c) ex m) p
  | .exit id, ex, _, _ => .exit id ((look ex id).getD 0)
  | .ret, _, _, _ => .ret rt
  | _, _, _, _ => .bad
structure Ks (α : Type) where
  nx : St → Option α
  ex : List (Nat × (St → Option α))
  rt : St → Option α
/-- So many rounds; the loop's place is told. -/
def iter {β : Type} : Nat → List Nat → ((β → Option α) → β → Option α) → β → Option α
  | 0, _, _ => fun _ => none
  | n + 1, p, F => F (iter n p F)
def saidOp (c : Operand) (b : Bool) (s : St) : St :=
  match c with
  | .tmp t => { tm := said s.tm t (.bool b), hp := s.hp }
  | _ => s
def code (E : Env) (n : Nat) : AC → Ks α → St → Option α
  | .skip m, k, s => k.nx (clean m s)
  | .region ops d m, k, s => region E ops d s fun s => k.nx (clean m s)
  | .seq a b, k, s => code E n a { nx := fun s => code E n b k s, ex := k.ex, rt := k.rt } s
  | .cond c a b ma mb, k, s => match getOp s.tm c with
    | .bool x => cnd x (code E n a k (clean ma (saidOp c true s))) (code E n b k (clean mb (saidOp c false s)))
    | _ => none
  | .block id c, k, s => code E n c { nx := k.nx, ex := (id, k.nx) :: k.ex, rt := k.rt } s
  | .loop c m p, k, s => iter n p (fun ih s => code E n c { nx := ih, ex := k.ex, rt := k.rt } s) (clean m s)
  | .exit id m, k, s => match look k.ex id with
    | some x => x (clean m s)
    | none => none
  | .ret m, k, s => k.rt (clean m s)
  | .bad, _, _ => none
/-- The value of a result's slot, or of its variable. -/
def resOf (P : Tab) (s : St) : ResultVar → AV
  | .tmp t => (look s.tm t).getD .undef
  | .cell t ct => match look s.tm t with
    | some (.ptr o t' []) => match look s.hp o with
      | some (.var t'' g _) => cnd (Nat.beq ct t' && Nat.beq ct t'') (view P ct g) .undef
      | _ => .undef
    | _ => .undef
/-- Is a value a row of the call's own, if it must be? -/
def ownOk (H : Nat → Option Obj) : Bool → AV → Bool
  | false, _ => true
  | true, .row o => match H o with
    | some (.row _ _ .own) => true
    | _ => false
  | true, .emp => true
  | true, _ => false
/-- What is shared by being handed back. -/
def sharesOf (P : Tab) (H : Nat → Option Obj) (own : Option Nat) : Nat → List TypeId → List AV → Ws
  | i, t :: ts, v :: vs => cat (cnd (isOwn P own i t) [] (share H v)) (sharesOf P H own (i + 1) ts vs)
  | _, _, _ => []
def convs (P : Tab) (H H2 : Nat → Option Obj) (own : Option Nat) : Nat → List TypeId → List AV → Option (List G)
  | _, [], [] => some []
  | i, t :: ts, v :: vs => match conv P H t v, convs P H H2 own (i + 1) ts vs with
    | some g, some gs => cnd (ownOk H2 (isOwn P own i t) v) (some (g :: gs)) none
    | _, _ => none
  | _, _, _ => none
def one : List G → G
  | [g] => g
  | gs => .tu gs
def noRefs : List A → Bool
  | [] => true
  | .ref _ _ :: _ => false
  | _ :: r => noRefs r
/-- What the object has become that was handed in (one at the most). -/
def given (H : Nat → Option Obj) : Nat → List A → Option (List G)
  | _, [] => some []
  | i, .ref t _ :: r => match H i with
    | some (.var t' g .ref) => cnd (Nat.beq t t' && noRefs r) (some [g]) none
    | _ => none
  | i, _ :: r => given H (i + 1) r
def finish (E : Env) (f : FuncId) (fn : Func) (as : List A) (s : St) : Option R :=
  match convs E.T (look s.hp) (look (wrAll (sharesOf E.T (look s.hp) (E.own f) 0 fn.resultTypes.toList (mp (resOf E.T s) fn.results.toList)) s.hp)) (E.own f) 0 fn.resultTypes.toList (mp (resOf E.T s) fn.results.toList), given (look s.hp) 0 as with
  | some gs, some fs => some (one gs, fs)
  | _, _ => none
def capOf : A → AV
  | .ro t g => .ro t g
  | _ => .undef
/-- The slots that a call begins with, and the objects that are handed in. -/
def enter (P : Tab) : Nat → List TypeId → List A → St → St
  | i, t :: ts, .val g :: r, s => enter P (i + 1) ts r { s with tm := put s.tm i (view P t g) }
  | i, _ :: ts, .ref t g :: r, s => enter P (i + 1) ts r { tm := put s.tm i (.ptr i t []), hp := put s.hp i (.var t g .ref) }
  | i, _ :: ts, .ro t g :: r, s => enter P (i + 1) ts r { s with tm := put s.tm i (.ro t g) }
  | i, _ :: ts, .fn f cs :: r, s => enter P (i + 1) ts r { s with tm := put s.tm i (.fn f (mp capOf cs)) }
  | _, _, _, s => s
def resBits : List ResultVar → Nat
  | [] => 0
  | .tmp t :: r => Nat.lor (bit t) (resBits r)
  | .cell t _ :: r => Nat.lor (bit t) (resBits r)
def ends (E : Env) (f : FuncId) (fn : Func) (as : List A) : Ks R :=
  { nx := finish E f fn as, ex := [], rt := finish E f fn as }
def codeOf (fn : Func) (c : Code) : AC := annot (resBits fn.results.toList) c [] (resBits fn.results.toList) []
def step (P : Program) (T : Tab) (own : FuncId → Option Nat) (ext : FuncId → Option (List A → Option R)) (call : FuncId → List A → Option R) (n : Nat) (f : FuncId) (as : List A) : Option R :=
  match ext f with
  | some F => F as
  | none => match atL P.funcs.toList f with
    | none => none
    | some fn => match fn.body with
      | none => none
      | some c => code { P := P, T := T, call := call, own := own, nt := fn.ntmps } n (codeOf fn c) (ends { P := P, T := T, call := call, own := own, nt := fn.ntmps } f fn as) (enter T 0 (cat fn.params.toList (List.replicate fn.nfree 0)) as { tm := [], hp := [] })
/-- What a call gives, with so many rounds for each loop, and so many calls within each other. -/
def run (P : Program) (T : Tab) (own : FuncId → Option Nat) (ext : FuncId → Option (List A → Option R)) : Nat → FuncId → List A → Option R
  | 0, _, _ => none
  | n + 1, f, as => step P T own ext (run P T own ext n) n f as
end Go.Proofs.Ytihipeicmbgegaa.Rf

namespace Go.Proofs.Ytihipeicmbgegaa.Rf
open Go
variable {α : Type}
def loopKs (E : Env) (n m : Nat) (c : AC) (p : List Nat) (k : Ks α) : Ks α :=
  { nx := iter m p (fun ih s => code E n c { nx := ih, ex := k.ex, rt := k.rt } s), ex := k.ex, rt := k.rt }
/-- The code at a place, and what follows it. (At a loop the number is that of the rounds that are left.) -/
def place (E : Env) (n : Nat) : List Nat → AC → Ks α → AC × Ks α
  | 0 :: p, .seq a b, k => place E n p a { nx := fun s => code E n b k s, ex := k.ex, rt := k.rt }
  | _ :: p, .seq _ b, k => place E n p b k
  | 0 :: p, .cond _ a _ _ _, k => place E n p a k
  | _ :: p, .cond _ _ b _ _, k => place E n p b k
  | _ :: p, .block id c, k => place E n p c { nx := k.nx, ex := (id, k.nx) :: k.ex, rt := k.rt }
  | m :: p, .loop c _ q, k => place E n p c (loopKs E n m c q k)
  | _, c, k => (c, k)
def env (P : Program) (T : Tab) (own : FuncId → Option Nat) (ext : FuncId → Option (List A → Option R)) (n nt : Nat) : Env := { P := P, T := T, call := run P T own ext n, own := own, nt := nt }
/-- From a place in a function on. -/
def fromAt (P : Program) (T : Tab) (own : FuncId → Option Nat) (ext : FuncId → Option (List A → Option R)) (n : Nat) (f : FuncId) (as : List A) (p : List Nat) (s : St) : Option R :=
  match atL P.funcs.toList f with
  | none => none
  | some fn => match fn.body with
    | none => none
    | some c => code (env P T own ext n fn.ntmps) n (place (env P T own ext n fn.ntmps) n p (codeOf fn c) (ends (env P T own ext n fn.ntmps) f fn as)).1 (place (env P T own ext n fn.ntmps) n p (codeOf fn c) (ends (env P T own ext n fn.ntmps) f fn as)).2 s
/-- A loop, with m rounds left. -/
def loopAt (P : Program) (T : Tab) (own : FuncId → Option Nat) (ext : FuncId → Option (List A → Option R)) (n m : Nat) (f : FuncId) (as : List A) (p : List Nat) (s : St) : Option R :=
  match atL P.funcs.toList f with
  | none => none
  | some fn => match fn.body with
    | none => none
    | some c => match place (env P T own ext n fn.ntmps) n p (codeOf fn c) (ends (env P T own ext n fn.ntmps) f fn as) with
      | (.loop b _ q, k) => (loopKs (env P T own ext n fn.ntmps) n m b q k).nx s
      | _ => none
end Go.Proofs.Ytihipeicmbgegaa.Rf

namespace Go.Proofs.Ytihipeicmbgegaa.Rf
open Go
theorem toInt_int (k : IntKind) (n : Int) : (G.int k n).toInt = n := rfl
theorem toBool_bool (b : Bool) : (G.bool b).toBool = b := rfl
theorem toStr_str (l : List UInt8) : (G.str l).toStr = l := rfl
theorem toList_sl (l : List G) : (G.sl l).toList = l := rfl
theorem parts_tu (l : List G) : (G.tu l).parts = l := rfl
theorem fld_zero (a : G) (l : List G) : (G.tu (a :: l)).fld 0 = a := rfl
theorem fld_succ (a : G) (l : List G) (n : Nat) : (G.tu (a :: l)).fld (n + 1) = (G.tu l).fld n := rfl
theorem set_zero (a b : G) (l : List G) : (a :: l).set 0 b = b :: l := rfl
theorem set_succ (a b : G) (l : List G) (n : Nat) : (a :: l).set (n + 1) b = a :: l.set n b := rfl
end Go.Proofs.Ytihipeicmbgegaa.Rf

namespace Go.Proofs.Ytihipeicmbgegaa.Rf
open Go Go.RowKit
set_option linter.unusedVariables false
set_option linter.unusedSimpArgs false
variable {α : Type}
@[simp] theorem cnd_true (x y : α) : cnd true x y = x := rfl
@[simp] theorem cnd_false (x y : α) : cnd false x y = y := rfl
theorem beqF {k n : Nat} (h : k ≠ n) : Nat.beq k n = false := by
  cases e : Nat.beq k n with
  | false => rfl
  | true => exact absurd (Nat.eq_of_beq_eq_true e) h
theorem beqT (k : Nat) : Nat.beq k k = true := Nat.beq_refl k
theorem beqI {k n : Nat} (h : Nat.beq k n = true) : k = n := Nat.eq_of_beq_eq_true h
theorem cat_eq (a b : List α) : cat a b = a ++ b := by induction a <;> simp_all [cat]
theorem mp_eq {β : Type} (f : α → β) (a : List α) : mp f a = a.map f := by induction a <;> simp_all [mp]
theorem nth_eq (d : α) : ∀ (a : List α) (n : Nat), nth d a n = a.getD n d
  | [], _ => rfl
  | _ :: _, 0 => rfl
  | _ :: a, n + 1 => by rw [nth, nth_eq d a n]; rfl
theorem has_iff (n : Nat) (a : List Nat) : has a n = true ↔ n ∈ a := by
  induction a with
  | nil => simp [has]
  | cons x a ih =>
    by_cases h : x = n
    · subst h; simp [has, beqT]
    · have h' : ¬ n = x := fun e => h e.symm
      simp [has, beqF h, ih, h']
theorem every_iff (f : α → Bool) (a : List α) : every f a = true ↔ ∀ x ∈ a, f x = true := by
  induction a <;> simp_all [every]
theorem atL_eq : ∀ (a : List α) (n : Nat), atL a n = a[n]?
  | [], _ => by simp [atL]
  | _ :: _, 0 => rfl
  | _ :: a, n + 1 => by rw [atL, atL_eq a n]; rfl
theorem look_cons (k : Nat) (v : α) (r : List (Nat × α)) (n : Nat) : look ((k, v) :: r) n = if k = n then some v else look r n := by
  by_cases h : k = n
  · subst h; simp [look, beqT]
  · simp [look, beqF h, h]
theorem look_put (l : List (Nat × α)) (n m : Nat) (x : α) : look (put l n x) m = if n = m then some x else look l m := by
  induction l with
  | nil => simp [put, look_cons]
  | cons p r ih =>
    obtain ⟨k, v⟩ := p
    simp only [put]
    by_cases hk : k = n
    · subst hk
      simp only [beqT, cnd_true, look_cons]
      split <;> simp_all
    · simp only [beqF hk, cnd_false]
      cases Nat.blt n k with
      | true => simp only [cnd_true, look_cons]
      | false =>
        simp only [cnd_false, look_cons, ih]
        by_cases h : k = m
        · subst h
          have : ¬ n = k := fun e => hk e.symm
          simp [this]
        · simp [h]
theorem said_same (l : List (Nat × α)) (n : Nat) (x : α) (h : look l n = some x) : said l n x = l := by
  induction l with
  | nil => simp [look] at h
  | cons p r ih =>
    obtain ⟨k, v⟩ := p
    rw [look_cons] at h
    by_cases hk : k = n
    · subst hk; simp at h; subst h; simp [said, beqT]
    · rw [if_neg hk] at h
      simp [said, beqF hk, ih h]
theorem look_without (f : Nat → Bool) (l : List (Nat × α)) (n : Nat) : look (without f l) n = if f n = true then none else look l n := by
  induction l with
  | nil => simp [without, look]
  | cons p r ih =>
    obtain ⟨k, v⟩ := p
    simp only [without]
    cases hc : f k with
    | true =>
      rw [cnd_true, ih, look_cons]
      by_cases hk : k = n
      · subst hk; simp [hc]
      · simp [hk]
    | false =>
      rw [cnd_false, look_cons, look_cons, ih]
      by_cases hk : k = n
      · subst hk; simp [hc]
      · simp [hk]
theorem look_mp {β : Type} (f : Nat → α → β) (l : List (Nat × α)) (n : Nat) : look (mp (fun p => (p.1, f p.1 p.2)) l) n = (look l n).map (f n) := by
  induction l with
  | nil => rfl
  | cons p r ih =>
    obtain ⟨k, v⟩ := p
    simp only [mp, look_cons, ih]
    by_cases hk : k = n
    · subst hk; simp
    · simp [hk]
theorem mem_of_look {l : List (Nat × α)} {n : Nat} {x : α} (h : look l n = some x) : (n, x) ∈ l := by
  induction l with
  | nil => simp [look] at h
  | cons p r ih =>
    obtain ⟨k, v⟩ := p
    rw [look_cons] at h
    by_cases hk : k = n
    · subst hk; simp at h; subst h; simp
    · rw [if_neg hk] at h; exact List.mem_cons_of_mem _ (ih h)
end Go.Proofs.Ytihipeicmbgegaa.Rf

namespace Go.Proofs.Ytihipeicmbgegaa.Rf
open Go Go.RowKit
set_option linter.unusedVariables false
set_option linter.unusedSimpArgs false
/-! ## sizes and places -/
abbrev sz (P : Program) (t : TypeId) : Nat := P.cellsOf t
def offs (P : Program) : List TypeId → Nat → Nat
  | [], _ => 0
  | _ :: _, 0 => 0
  | t :: ts, i + 1 => sz P t + offs P ts i
def eqL : List Nat → List Nat → Bool
  | [], [] => true
  | a :: r, b :: s => Nat.beq a b && eqL r s
  | _, _ => false
theorem eqL_eq : ∀ (a b : List Nat), eqL a b = true → a = b
  | [], [], _ => rfl
  | [], _ :: _, h => by simp [eqL] at h
  | _ :: _, [], h => by simp [eqL] at h
  | a :: r, b :: s, h => by
    simp only [eqL, Bool.and_eq_true] at h
    rw [beqI h.1, eqL_eq r s h.2]
/-- Do a struct's fields lie one behind the other? -/
def fieldsOk (P : Program) : Nat → List Field → Bool
  | _, [] => true
  | o, f :: r => Nat.beq f.offset o && Nat.blt 0 (sz P f.type) && f.name != "_" && fieldsOk P (o + sz P f.type) r
/-- Does the table say of a type what the program says? -/
def tyOk (P : Program) (t : TypeId) : Ty → Bool
  | .int k => (match P.underlying t with | some (.int k') => eqK k k' | _ => false) && Nat.beq (sz P t) 1
  | .bool => (match P.underlying t with | some .bool => true | _ => false) && Nat.beq (sz P t) 1
  | .str => (match P.underlying t with | some .string => true | _ => false) && Nat.beq (sz P t) 1
  | .tu ts => (match P.underlying t with | some (.struct fs) => eqL (fs.toList.map (·.type)) ts && fieldsOk P 0 fs.toList && !P.stoodInHeld t && !P.eqGuardType P.depth t | _ => false) && Nat.beq (sz P t) (offs P ts ts.length)
  | .arr n e => (match P.underlying t with | some (.array n' e') => Nat.beq n n' && Nat.beq e e' | _ => false) && Nat.beq (sz P t) (n * sz P e) && Nat.blt 0 (sz P e)
  | .sl e => (match P.underlying t with | some (.slice e') => Nat.beq e e' | _ => false) && Nat.beq (sz P t) 1 && Nat.blt 0 (sz P e) && Nat.ble (P.bytesOf e) 2048 && Nat.ble (sz P e) 2048
  | .other => true
/-- Do cells say what data of a type says? (For zeros.) -/
def lies (P : Program) (T : Tab) : Nat → TypeId → List Value → G → Bool
  | 0, _, _, _ => false
  | d + 1, t, cs, g => match ty T t, cs, g with
    | .int k, [.int k' n], .int k'' m => eqK k k' && eqK k k'' && decide (n = m)
    | .bool, [.bool b], .bool c => b == c
    | .str, [.string s], .str l => s.data.toList.isEmpty && l.isEmpty
    | .sl e, [.slice none 0 0], .sl [] => true
    | .tu ts, cs, .tu gs => liesL (lies P T d) ts cs gs
    | .arr n e, cs, .tu gs => liesL (lies P T d) (List.replicate n e) cs gs
    | _, _, _ => false
where liesL (f : TypeId → List Value → G → Bool) : List TypeId → List Value → List G → Bool
  | [], cs, [] => cs.isEmpty
  | t :: ts, cs, g :: gs => f t (cs.take (sz P t)) g && liesL f ts (cs.drop (sz P t)) gs
  | _, _, _ => false
def zeroOk (P : Program) (T : Tab) (t : TypeId) : Bool :=
  match (P.info? t).bind (·.zero) with
  | some v => lies P T deep t v.cells.toList (zero T deep t) && Nat.beq v.cells.size (sz P t)
  | none => false
def isAggV : Value → Bool
  | .agg _ => true
  | _ => false
def isAggT : Ty → Bool
  | .tu _ => true
  | .arr _ _ => true
  | _ => false
def tabOk (P : Program) (T : Tab) : Bool := every (fun x => tyOk P x.1 x.2 && zeroOk P T x.1) T
theorem eqK_eq {k k' : IntKind} (h : eqK k k' = true) : k = k' := by
  cases k <;> cases k' <;> first | rfl | (exact absurd h (by decide))
section
variable {P : Program} {T : Tab}
theorem tabOk_at (h : tabOk P T = true) {t : TypeId} {y : Ty} (hy : ty T t = y) (hne : y ≠ .other) : tyOk P t y = true ∧ zeroOk P T t = true := by
  unfold ty at hy
  cases hl : look T t with
  | none => rw [hl] at hy; exact absurd hy.symm hne
  | some z =>
    rw [hl] at hy
    obtain rfl : z = y := hy
    have := (every_iff _ _).1 h _ (mem_of_look hl)
    simpa using this
/-! ## data in cells -/
/-- Cells that can be read by their numbers say data of a type; what is under slices lies in I. -/
inductive CR (P : Program) (T : Tab) (I : Nat → Nat → Option Value) : TypeId → (Nat → Option Value) → G → Prop
  | int {t k n rd} : ty T t = .int k → rd 0 = some (.int k n) → CR P T I t rd (.int k n)
  | bool {t b rd} : ty T t = .bool → rd 0 = some (.bool b) → CR P T I t rd (.bool b)
  | str {t l rd} : ty T t = .str → rd 0 = some (.string ⟨⟨l⟩⟩) → CR P T I t rd (.str l)
  | tu {t ts gs rd} : ty T t = .tu ts → gs.length = ts.length → (∀ i (h : i < ts.length) (h' : i < gs.length), CR P T I ts[i] (fun j => rd (offs P ts i + j)) gs[i]) → CR P T I t rd (.tu gs)
  | arr {t n e gs rd} : ty T t = .arr n e → gs.length = n → (∀ i (h : i < gs.length), CR P T I e (fun j => rd (i * sz P e + j)) gs[i]) → CR P T I t rd (.tu gs)
  | nil {t e a c rd} : ty T t = .sl e → rd 0 = some (.slice a 0 c) → CR P T I t rd (.sl [])
  | sl {t e b off c es rd} : ty T t = .sl e → rd 0 = some (.slice (some ⟨b, off, none⟩) es.length c) → es.length ≤ c → (∀ i (h : i < es.length), CR P T I e (fun j => I b (off + i * sz P e + j)) es[i]) → CR P T I t rd (.sl es)
/-- What lies somewhere lies there still when more memory is known. -/
theorem CR.mono {I I' : Nat → Nat → Option Value} (hI : ∀ b o v, I b o = some v → I' b o = some v) {t : TypeId} {rd rd' : Nat → Option Value} {g : G} (h : CR P T I t rd g) (hr : ∀ j v, rd j = some v → rd' j = some v) : CR P T I' t rd' g := by
  induction h generalizing rd' with
  | int h1 h2 => exact .int h1 (hr _ _ h2)
  | bool h1 h2 => exact .bool h1 (hr _ _ h2)
  | str h1 h2 => exact .str h1 (hr _ _ h2)
  | tu h1 h2 h3 ih => exact .tu h1 h2 fun i a b => ih i a b (fun j v hv => hr _ _ hv)
  | arr h1 h2 h3 ih => exact .arr h1 h2 fun i a => ih i a (fun j v hv => hr _ _ hv)
  | nil h1 h2 => exact .nil h1 (hr _ _ h2)
  | sl h1 h2 h3 h4 ih => exact .sl h1 (hr _ _ h2) h3 fun i a => ih i a (fun j v hv => hI _ _ _ hv)
theorem offs_le (ts : List TypeId) : ∀ i, i < ts.length → ∀ (h : i < ts.length), offs P ts i + sz P ts[i] ≤ offs P ts ts.length := by
  induction ts with
  | nil => intro i h; simp at h
  | cons t ts ih =>
    intro i h _
    cases i with
    | zero => simp only [offs, List.getElem_cons_zero, List.length_cons]; omega
    | succ i =>
      have hi : i < ts.length := by simpa using h
      have := ih i hi hi
      simp only [offs, List.getElem_cons_succ, List.length_cons] at this ⊢
      omega
theorem offs_lt (ts : List TypeId) : ∀ i k, i < k → ∀ (h' : i < ts.length) (h : k < ts.length), offs P ts i + sz P ts[i] ≤ offs P ts k := by
  induction ts with
  | nil => intro i k _ _ h; simp at h
  | cons t ts ih =>
    intro i k hik h' h
    cases k with
    | zero => omega
    | succ k =>
      cases i with
      | zero => simp only [offs, List.getElem_cons_zero]; omega
      | succ i =>
        have := ih i k (by omega) (by simpa using h') (by simpa using h)
        simp only [offs, List.getElem_cons_succ]
        omega
theorem tu_size (hT : tabOk P T = true) {t : TypeId} {ts : List TypeId} (h : ty T t = .tu ts) : sz P t = offs P ts ts.length := by
  have := (tabOk_at hT h (by simp)).1
  simp only [tyOk, Bool.and_eq_true] at this
  exact beqI this.2
theorem arr_size (hT : tabOk P T = true) {t e : TypeId} {n : Nat} (h : ty T t = .arr n e) : sz P t = n * sz P e ∧ 0 < sz P e := by
  have := (tabOk_at hT h (by simp)).1
  simp only [tyOk, Bool.and_eq_true] at this
  exact ⟨beqI this.1.2, by simpa using this.2⟩
/-- Data is read from its own cells alone. -/
theorem CR.congr (hT : tabOk P T = true) {I : Nat → Nat → Option Value} {t : TypeId} {rd rd' : Nat → Option Value} {g : G} (h : CR P T I t rd g) (hr : ∀ j, j < sz P t → rd' j = rd j) : CR P T I t rd' g := by
  have one : ∀ {t : TypeId} {y : Ty}, ty T t = y → y ≠ .other → isAggT y = false → sz P t = 1 := by
    intro t y hy hne ha
    have := (tabOk_at hT hy hne).1
    cases y <;> simp only [tyOk, Bool.and_eq_true, isAggT] at this ha
    · exact beqI this.2
    · exact beqI this.2
    · exact beqI this.2
    · cases ha
    · cases ha
    · exact beqI this.1.1.1.2
    · exact absurd rfl hne
  induction h generalizing rd' with
  | int h1 h2 => exact .int h1 (by rw [hr 0 (by have := one h1 (by simp) rfl; omega)]; exact h2)
  | bool h1 h2 => exact .bool h1 (by rw [hr 0 (by have := one h1 (by simp) rfl; omega)]; exact h2)
  | str h1 h2 => exact .str h1 (by rw [hr 0 (by have := one h1 (by simp) rfl; omega)]; exact h2)
  | tu h1 h2 h3 ih =>
    refine .tu h1 h2 fun i a b => ih i a b (fun j hj => hr _ ?_)
    have := offs_le (P := P) _ i a a
    rw [tu_size hT h1]
    omega
  | @arr t n e gs rd h1 h2 h3 ih =>
    refine .arr h1 h2 fun i a => ih i a (fun j hj => hr _ ?_)
    rw [(arr_size hT h1).1, ← h2]
    have : (i + 1) * sz P e ≤ gs.length * sz P e := Nat.mul_le_mul_right _ (by omega)
    rw [Nat.add_mul] at this
    omega
  | nil h1 h2 => exact .nil h1 (by rw [hr 0 (by have := one h1 (by simp) rfl; omega)]; exact h2)
  | sl h1 h2 h3 h4 ih => exact .sl h1 (by rw [hr 0 (by have := one h1 (by simp) rfl; omega)]; exact h2) h3 h4
theorem scalar_size (hT : tabOk P T = true) {t : TypeId} {y : Ty} (hy : ty T t = y) (hne : y ≠ .other) (ha : isAggT y = false) : sz P t = 1 := by
  have := (tabOk_at hT hy hne).1
  cases y <;> simp only [tyOk, Bool.and_eq_true, isAggT] at this ha
  · exact beqI this.2
  · exact beqI this.2
  · exact beqI this.2
  · cases ha
  · cases ha
  · exact beqI this.1.1.1.2
  · exact absurd rfl hne
/-- A cell of data holds a value of one cell. -/
theorem CR.cell (hT : tabOk P T = true) {I : Nat → Nat → Option Value} {t : TypeId} {rd : Nat → Option Value} {g : G} (h : CR P T I t rd g) : ∀ j, j < sz P t → ∃ v, rd j = some v ∧ v.oneCell' = true := by
  induction h with
  | int h1 h2 => intro j hj; rw [scalar_size hT h1 (by simp) rfl] at hj; obtain rfl : j = 0 := by omega
                 exact ⟨_, h2, rfl⟩
  | bool h1 h2 => intro j hj; rw [scalar_size hT h1 (by simp) rfl] at hj; obtain rfl : j = 0 := by omega
                  exact ⟨_, h2, rfl⟩
  | str h1 h2 => intro j hj; rw [scalar_size hT h1 (by simp) rfl] at hj; obtain rfl : j = 0 := by omega
                 exact ⟨_, h2, rfl⟩
  | @tu t ts gs rd h1 h2 h3 ih =>
    intro j hj
    rw [tu_size hT h1] at hj
    have key : ∀ (l : List TypeId) (j : Nat), j < offs P l l.length → ∃ i, ∃ h : i < l.length, offs P l i ≤ j ∧ j < offs P l i + sz P l[i] := by
      intro l
      induction l with
      | nil => intro j hj; simp [offs] at hj
      | cons t l ihl =>
        intro j hj
        simp only [offs, List.length_cons] at hj
        by_cases hlt : j < sz P t
        · exact ⟨0, by simp, by simp [offs], by simpa [offs] using hlt⟩
        · obtain ⟨i, hi, h1, h2⟩ := ihl (j - sz P t) (by omega)
          exact ⟨i + 1, by simpa using hi, by simp only [offs]; omega, by simp only [offs, List.getElem_cons_succ]; omega⟩
    obtain ⟨i, hi, ha, hb⟩ := key ts j hj
    obtain ⟨v, hv, ho⟩ := ih i hi (by omega) (j - offs P ts i) (by omega)
    refine ⟨v, ?_, ho⟩
    rw [← hv]
    congr 1
    omega
  | @arr t n e gs rd h1 h2 h3 ih =>
    intro j hj
    obtain ⟨hs, hp⟩ := arr_size hT h1
    rw [hs, ← h2] at hj
    have hi : j / sz P e < gs.length := (Nat.div_lt_iff_lt_mul hp).2 hj
    obtain ⟨v, hv, ho⟩ := ih (j / sz P e) hi (j % sz P e) (Nat.mod_lt _ hp)
    refine ⟨v, ?_, ho⟩
    rw [← hv]
    congr 1
    rw [Nat.mul_comm]
    exact (Nat.div_add_mod j (sz P e)).symm
  | nil h1 h2 => intro j hj; rw [scalar_size hT h1 (by simp) rfl] at hj; obtain rfl : j = 0 := by omega
                 exact ⟨_, h2, rfl⟩
  | sl h1 h2 h3 h4 ih => intro j hj; rw [scalar_size hT h1 (by simp) rfl] at hj; obtain rfl : j = 0 := by omega
                         exact ⟨_, h2, rfl⟩
end
end Go.Proofs.Ytihipeicmbgegaa.Rf

namespace Go.Proofs.Ytihipeicmbgegaa.Rf
open Go Go.RowKit
set_option linter.unusedVariables false
set_option linter.unusedSimpArgs false
/-! ## places in data -/
/-- Where the part p of a type lies, and its type. -/
def goD (P : Program) (T : Tab) : TypeId → List Nat → Option (Nat × TypeId)
  | t, [] => some (0, t)
  | t, i :: p => match ty T t with
    | .tu ts => match ts[i]? with
      | some t' => (goD P T t' p).map fun x => (offs P ts i + x.1, x.2)
      | none => none
    | .arr n e => if i < n then (goD P T e p).map fun x => (i * sz P e + x.1, x.2) else none
    | _ => none
section
variable {P : Program} {T : Tab} {I : Nat → Nat → Option Value}
theorem fld_tu (gs : List G) (i : Nat) (h : i < gs.length) : (G.tu gs).fld i = gs[i] := by
  simp [G.fld, G.parts, h]
theorem goD_le (hT : tabOk P T = true) : ∀ (p : List Nat) (t : TypeId) (d : Nat) (u : TypeId), goD P T t p = some (d, u) → d + sz P u ≤ sz P t
  | [], t, d, u, h => by
    simp only [goD, Option.some.injEq, Prod.mk.injEq] at h
    obtain ⟨rfl, rfl⟩ := h
    omega
  | i :: p, t, d, u, h => by
    simp only [goD] at h
    cases hy : ty T t with
    | tu ts =>
      simp only [hy] at h
      cases hi : ts[i]? with
      | none => simp [hi] at h
      | some t' =>
        simp only [hi, Option.map_eq_some_iff, Prod.mk.injEq] at h
        obtain ⟨⟨d', u'⟩, h1, h2, rfl⟩ := h
        have ih := goD_le hT p t' d' _ h1
        obtain ⟨hlt, rfl⟩ := List.getElem?_eq_some_iff.1 hi
        have := offs_le (P := P) ts i hlt hlt
        rw [tu_size hT hy]
        dsimp only at h2 ih ⊢
        omega
    | arr n e =>
      simp only [hy] at h
      by_cases hi : i < n
      · simp only [hi, if_true, Option.map_eq_some_iff, Prod.mk.injEq] at h
        obtain ⟨⟨d', u'⟩, h1, h2, rfl⟩ := h
        have ih := goD_le hT p e d' _ h1
        rw [(arr_size hT hy).1]
        have : (i + 1) * sz P e ≤ n * sz P e := Nat.mul_le_mul_right _ (by omega)
        rw [Nat.add_mul] at this
        dsimp only at h2 ih ⊢
        omega
      · simp [hi] at h
    | _ => simp [hy] at h
/-- A part of data lies in its place. -/
theorem CR.get : ∀ (p : List Nat) {t : TypeId} {rd : Nat → Option Value} {g : G} {d : Nat} {u : TypeId}, CR P T I t rd g → goD P T t p = some (d, u) → CR P T I u (fun j => rd (d + j)) (getP g p)
  | [], t, rd, g, d, u, h, hp => by
    simp only [goD, Option.some.injEq, Prod.mk.injEq] at hp
    obtain ⟨rfl, rfl⟩ := hp
    simpa [getP] using h
  | i :: p, t, rd, g, d, u, h, hp => by
    simp only [goD] at hp
    cases h with
    | @tu _ ts gs _ h1 h2 h3 =>
      simp only [h1] at hp
      cases hi : ts[i]? with
      | none => simp [hi] at hp
      | some t' =>
        simp only [hi, Option.map_eq_some_iff, Prod.mk.injEq] at hp
        obtain ⟨⟨d', u'⟩, hq, rfl, rfl⟩ := hp
        obtain ⟨hlt, rfl⟩ := List.getElem?_eq_some_iff.1 hi
        have hg : i < gs.length := by omega
        have := CR.get p (h3 i hlt hg) hq
        simp only [getP, fld_tu gs i hg, Nat.add_assoc] at this ⊢
        exact this
    | @arr _ n e gs _ h1 h2 h3 =>
      simp only [h1] at hp
      by_cases hi : i < n
      · simp only [hi, if_true, Option.map_eq_some_iff, Prod.mk.injEq] at hp
        obtain ⟨⟨d', u'⟩, hq, rfl, rfl⟩ := hp
        have hg : i < gs.length := by omega
        have := CR.get p (h3 i hg) hq
        simp only [getP, fld_tu gs i hg, Nat.add_assoc] at this ⊢
        exact this
      · simp [hi] at hp
    | int h1 _ => simp [h1] at hp
    | bool h1 _ => simp [h1] at hp
    | str h1 _ => simp [h1] at hp
    | nil h1 _ => simp [h1] at hp
    | sl h1 _ _ _ => simp [h1] at hp
/-- Data with another part in its place. -/
theorem CR.set (hT : tabOk P T = true) : ∀ (p : List Nat) {t : TypeId} {rd rd' rx : Nat → Option Value} {g x : G} {d : Nat} {u : TypeId}, CR P T I t rd g → goD P T t p = some (d, u) → CR P T I u rx x → (∀ j, j < sz P u → rd' (d + j) = rx j) → (∀ j, j < sz P t → (j < d ∨ d + sz P u ≤ j) → rd' j = rd j) → CR P T I t rd' (setP g x p)
  | [], t, rd, rd', rx, g, x, d, u, h, hp, hx, h1, h2 => by
    simp only [goD, Option.some.injEq, Prod.mk.injEq] at hp
    obtain ⟨rfl, rfl⟩ := hp
    exact hx.congr hT (fun j hj => by have := h1 j hj; simpa using this)
  | i :: p, t, rd, rd', rx, g, x, d, u, h, hp, hx, hin, hout => by
    have hp0 := hp
    simp only [goD] at hp
    cases h with
    | @tu _ ts gs _ h1 h2 h3 =>
      simp only [h1] at hp
      cases hi : ts[i]? with
      | none => simp [hi] at hp
      | some t' =>
        simp only [hi, Option.map_eq_some_iff, Prod.mk.injEq] at hp
        obtain ⟨⟨d', u'⟩, hq, rfl, rfl⟩ := hp
        obtain ⟨hlt, rfl⟩ := List.getElem?_eq_some_iff.1 hi
        have hg : i < gs.length := by omega
        have hle := goD_le hT p _ _ _ hq
        refine .tu h1 (by simpa [G.parts] using h2) fun k hk hk' => ?_
        have hk2 : k < gs.length := by omega
        simp only [G.parts] at hk' ⊢
        by_cases e : k = i
        · subst e
          rw [List.getElem_set_self]
          rw [fld_tu gs k hg]
          refine CR.set hT p (h3 k hlt hg) hq hx (fun j hj => ?_) (fun j hj ho => ?_)
          · have := hin j hj
            rw [← this]
            simp only [Nat.add_assoc]
          · refine hout _ ?_ ?_
            · have := offs_le (P := P) ts k hlt hlt
              rw [tu_size hT h1]; omega
            · dsimp only; omega
        · rw [List.getElem_set_ne (fun h => e h.symm)]
          refine (h3 k hk hk2).congr hT (fun j hj => hout _ ?_ ?_)
          · have := offs_le (P := P) ts k hk hk
            rw [tu_size hT h1]; omega
          · dsimp only at hle ⊢
            rcases Nat.lt_or_ge k i with hki | hki
            · have := offs_lt (P := P) ts k i hki hk hlt
              omega
            · have := offs_lt (P := P) ts i k (by omega) hlt hk
              omega
    | @arr _ n e gs _ h1 h2 h3 =>
      simp only [h1] at hp
      by_cases hi : i < n
      · simp only [hi, if_true, Option.map_eq_some_iff, Prod.mk.injEq] at hp
        obtain ⟨⟨d', u'⟩, hq, rfl, rfl⟩ := hp
        have hg : i < gs.length := by omega
        have hle := goD_le hT p _ _ _ hq
        have hs := (arr_size hT h1).1
        refine .arr h1 (by simpa [G.parts] using h2) fun k hk => ?_
        simp only [G.parts, List.length_set] at hk ⊢
        have hkn : (k + 1) * sz P e ≤ n * sz P e := Nat.mul_le_mul_right _ (by omega)
        rw [Nat.add_mul] at hkn
        by_cases e' : k = i
        · subst e'
          rw [List.getElem_set_self, fld_tu gs k hg]
          refine CR.set hT p (h3 k hg) hq hx (fun j hj => ?_) (fun j hj ho => ?_)
          · have := hin j hj
            rw [← this]
            simp only [Nat.add_assoc]
          · refine hout _ (by omega) ?_
            dsimp only; omega
        · rw [List.getElem_set_ne (fun h => e' h.symm)]
          refine (h3 k hk).congr hT (fun j hj => hout _ (by omega) ?_)
          dsimp only
          rcases Nat.lt_or_ge k i with hki | hki
          · have : (k + 1) * sz P e ≤ i * sz P e := Nat.mul_le_mul_right _ (by omega)
            rw [Nat.add_mul] at this
            omega
          · have : (i + 1) * sz P e ≤ k * sz P e := Nat.mul_le_mul_right _ (by omega)
            rw [Nat.add_mul] at this
            omega
      · simp [hi] at hp
    | int h1 _ => simp [h1] at hp
    | bool h1 _ => simp [h1] at hp
    | str h1 _ => simp [h1] at hp
    | nil h1 _ => simp [h1] at hp
    | sl h1 _ _ _ => simp [h1] at hp
end
end Go.Proofs.Ytihipeicmbgegaa.Rf

namespace Go.Proofs.Ytihipeicmbgegaa.Rf
open Go Go.RowKit
set_option linter.unusedVariables false
set_option linter.unusedSimpArgs false
/-- What an object is. -/
inductive Root where
  | var (t : TypeId)
  | row (e : TypeId)
/-- What is known beside the world: the memory that stays as it is; the value that leads to each object; what it is. -/
structure Gh where
  I : Nat → Nat → Option Value
  V : Nat → Value
  Y : Nat → Root
def blkV : Value → Option Nat
  | .pointer (some a) => some a.block
  | .slice (some a) _ (_ + 1) => some a.block
  | _ => none
section
variable (P : Program) (T : Tab)
def VR (I : Nat → Nat → Option Value) (t : TypeId) (v : Value) (g : G) : Prop :=
  CR P T I t (fun j => v.cells[j]?) g ∧ v.cells.size = sz P t ∧ isAggV v = isAggT (ty T t)
def SLR (I : Nat → Nat → Option Value) (e : TypeId) (es : List G) (v : Value) : Prop :=
  (∃ a c, v = .slice a 0 c ∧ es = []) ∨
  ∃ b off c, v = .slice (some ⟨b, off, none⟩) es.length c ∧ es.length ≤ c ∧ ∀ i (h : i < es.length), CR P T I e (fun j => I b (off + i * sz P e + j)) es[i]
/-- Where a part of an object lies: behind how many cells, and its type. -/
def pathD : Root → Nat → List Nat → Option (Nat × TypeId)
  | .var t, _, p => goD P T t p
  | .row e, n, i :: p => if i < n then (goD P T e p).map fun x => (i * sz P e + x.1, x.2) else none
  | .row _, _, [] => none
def baseV : Value → Option (Nat × Nat × Nat)
  | .pointer (some ⟨b, off, none⟩) => some (b, off, 1)
  | .slice (some ⟨b, off, none⟩) n _ => some (b, off, n)
  | _ => none
mutual
def AVR (gh : Gh) (v : Value) : AV → Prop
  | .undef => True
  | .no => v = undef
  | .int k n => v = .int k n
  | .bool b => v = .bool b
  | .str l => v = .string ⟨⟨l⟩⟩
  | .agg t g => VR P T gh.I t v g ∧ isAggT (ty T t) = true
  | .sl e es => SLR P T gh.I e es v
  | .emp => v = .slice none 0 0
  | .row o => v = gh.V o
  | .ptr o t p => ∃ b off n d, baseV (gh.V o) = some (b, off, n) ∧ pathD P T (gh.Y o) n p = some (d, t) ∧ v = .pointer (some ⟨b, off + d, none⟩)
  | .ro t g => ∃ b off, v = .pointer (some ⟨b, off, none⟩) ∧ CR P T gh.I t (fun j => gh.I b (off + j)) g
  | .fn f caps => ∃ cs : List Value, v = .func (.func f) #[] cs.toArray ∧ AVRs gh cs caps
  | .tup vs => ∃ cs : List Value, v = .tuple cs.toArray ∧ AVRs gh cs vs
def AVRs (gh : Gh) : List Value → List AV → Prop
  | [], [] => True
  | v :: vs, a :: as => AVR gh v a ∧ AVRs gh vs as
  | _, _ => False
end
/-- A variable's block. -/
def VarAt (I : Nat → Nat → Option Value) (w : World) (b : Nat) (t : TypeId) (g : G) : Prop :=
  ∃ cs t', w.heap[b]? = some (.cells cs t' (0, 0)) ∧ cs.size = sz P t ∧ CR P T I t (fun j => cs[j]?) g ∧ ∀ off, I b off = none
def Elems (I : Nat → Nat → Option Value) (e : TypeId) (xs : List Value) (es : List G) : Prop :=
  ∀ i (h : i < es.length), CR P T I e (fun j => xs[i * sz P e + j]?) es[i]
/-- An object in the world; base: blocks from here on are the call's own; B: the blocks of variables that are handed in. -/
def OR (base : Nat) (B : List Nat) (gh : Gh) (w : World) (o : Nat) : Obj → Prop
  | .var t g .own => gh.Y o = .var t ∧ ∃ b, gh.V o = .pointer (some ⟨b, 0, none⟩) ∧ base ≤ b ∧ VarAt P T gh.I w b t g
  | .var t g .ref => gh.Y o = .var t ∧ ∃ b, gh.V o = .pointer (some ⟨b, 0, none⟩) ∧ b ∈ B ∧ VarAt P T gh.I w b t g
  | .var t g .fz => gh.Y o = .var t ∧ ∃ b, gh.V o = .pointer (some ⟨b, 0, none⟩) ∧ CR P T gh.I t (fun j => gh.I b j) g
  | .row e es .own => gh.Y o = .row e ∧ ((∃ a, gh.V o = .slice a 0 0 ∧ es = []) ∨ (∃ xs, w.ownsRow base e (sz P e) (gh.V o) es.length xs ∧ Elems P T gh.I e xs es ∧ ∀ b, blkV (gh.V o) = some b → ∀ off, gh.I b off = none))
  | .row e es .ref => False
  | .row e es .fz => gh.Y o = .row e ∧ SLR P T gh.I e es (gh.V o)
  | .dead => True
def loose : Obj → Bool
  | .var _ _ .own => true
  | .var _ _ .ref => true
  | .row _ _ .own => true
  | _ => false
/-- The world is as it was at the beginning, but for the blocks of B and new ones. -/
structure Upto (B : List Nat) (w0 w : World) : Prop where
  os : w.os = w0.os
  tape : w.tape = w0.tape
  output : w.output = w0.output
  size : w0.heap.size ≤ w.heap.size
  block : ∀ k, k < w0.heap.size → k ∉ B → w.heap[k]? = w0.heap[k]?
structure HR (B : List Nat) (I0 : Nat → Nat → Option Value) (w0 : World) (gh : Gh) (w : World) (H : Nat → Option Obj) : Prop where
  up : Upto B w0 w
  imm : ∀ b off v, gh.I b off = some v → w.cell? ⟨b, off, none⟩ = some v
  ext : ∀ b off v, I0 b off = some v → gh.I b off = some v
  old : ∀ b off, b < w0.heap.size → gh.I b off = I0 b off
  inB : ∀ b ∈ B, b < w0.heap.size
  obj : ∀ o ob, H o = some ob → OR P T w0.heap.size B gh w o ob
  sep : ∀ o o' ob ob' b, o ≠ o' → H o = some ob → H o' = some ob' → loose ob = true → loose ob' = true → blkV (gh.V o) = some b → blkV (gh.V o') ≠ some b
/-- More is known, and of the objects of H nothing else. -/
structure Gh.le (H : Nat → Option Obj) (gh gh' : Gh) : Prop where
  I : ∀ b off v, gh.I b off = some v → gh'.I b off = some v
  V : ∀ o, (H o).isSome = true → gh'.V o = gh.V o ∧ gh'.Y o = gh.Y o
end
section
variable {P : Program} {T : Tab}
theorem VR.mono {I I' : Nat → Nat → Option Value} (hI : ∀ b o v, I b o = some v → I' b o = some v) {t : TypeId} {v : Value} {g : G} (h : VR P T I t v g) : VR P T I' t v g :=
  ⟨h.1.mono hI fun _ _ h => h, h.2⟩
theorem SLR.mono {I I' : Nat → Nat → Option Value} (hI : ∀ b o v, I b o = some v → I' b o = some v) {e : TypeId} {es : List G} {v : Value} (h : SLR P T I e es v) : SLR P T I' e es v := by
  rcases h with h | ⟨b, off, c, h1, h2, h3⟩
  · exact .inl h
  · exact .inr ⟨b, off, c, h1, h2, fun i hi => (h3 i hi).mono hI fun _ _ h => hI _ _ _ h⟩
mutual
theorem AVR.mono {H : Nat → Option Obj} {gh gh' : Gh} (hg : Gh.le H gh gh') {v : Value} : ∀ (a : AV), (∀ o ∈ refs a, (H o).isSome = true) → AVR P T gh v a → AVR P T gh' v a
  | .undef, _, h => h
  | .no, _, h => h
  | .int _ _, _, h => h
  | .bool _, _, h => h
  | .str _, _, h => h
  | .agg t g, _, h => ⟨VR.mono hg.I h.1, h.2⟩
  | .sl e es, _, h => SLR.mono hg.I h
  | .emp, _, h => h
  | .row o, hr, h => by
    have h : v = gh.V o := h
    exact h.trans (hg.V o (hr o (by simp [refs]))).1.symm
  | .ptr o t p, hr, h => by
    obtain ⟨b, off, n, d, h1, h2, h3⟩ := h
    have := hg.V o (hr o (by simp [refs]))
    exact ⟨b, off, n, d, by rw [this.1]; exact h1, by rw [this.2]; exact h2, h3⟩
  | .ro t g, _, h => by
    obtain ⟨b, off, h1, h2⟩ := h
    exact ⟨b, off, h1, h2.mono hg.I fun _ _ h => hg.I _ _ _ h⟩
  | .fn f caps, hr, h => by
    obtain ⟨cs, h1, h2⟩ := h
    exact ⟨cs, h1, AVRs.mono hg caps (fun o ho => hr o (by simpa [refs] using ho)) h2⟩
  | .tup vs, hr, h => by
    obtain ⟨cs, h1, h2⟩ := h
    exact ⟨cs, h1, AVRs.mono hg vs (fun o ho => hr o (by simpa [refs] using ho)) h2⟩
theorem AVRs.mono {H : Nat → Option Obj} {gh gh' : Gh} (hg : Gh.le H gh gh') : ∀ {vs : List Value} (as : List AV), (∀ o ∈ refsL as, (H o).isSome = true) → AVRs P T gh vs as → AVRs P T gh' vs as
  | [], [], _, h => h
  | v :: vs, a :: as, hr, h => by
    have hr' : ∀ o, o ∈ refs a ∨ o ∈ refsL as → (H o).isSome = true := fun o ho => hr o (by simpa [refsL, cat_eq] using ho)
    exact ⟨AVR.mono hg a (fun o ho => hr' o (.inl ho)) h.1, AVRs.mono hg as (fun o ho => hr' o (.inr ho)) h.2⟩
  | [], _ :: _, _, h => h.elim
  | _ :: _, [], _, h => h.elim
end
theorem Gh.le.refl (H : Nat → Option Obj) (gh : Gh) : Gh.le H gh gh := ⟨fun _ _ _ h => h, fun _ _ => ⟨rfl, rfl⟩⟩
theorem Gh.le.trans {H H' : Nat → Option Obj} {a b c : Gh} (h : Gh.le H a b) (k : Gh.le H' b c) (hd : ∀ o, (H o).isSome = true → (H' o).isSome = true) : Gh.le H a c :=
  ⟨fun b off v hv => k.I _ _ _ (h.I _ _ _ hv), fun o ho => ⟨(k.V o (hd o ho)).1.trans (h.V o ho).1, (k.V o (hd o ho)).2.trans (h.V o ho).2⟩⟩
/-! ## views -/
theorem scalar_of {v : Value} {x : Value} (h : v.cells[0]? = some x) (hs : v.cells.size = 1) (ha : isAggV v = false) : v = x := by
  cases v <;> simp [Value.cells, isAggV] at h ha ⊢ <;> exact h
theorem view_AVR {gh : Gh} {t : TypeId} {v : Value} {g : G} (hT : tabOk P T = true) (h : VR P T gh.I t v g) : AVR P T gh v (view T t g) := by
  obtain ⟨hc, hs, ha⟩ := h
  have hc0 := hc
  unfold view
  cases hc with
  | int h1 h2 =>
    rw [h1] at ha ⊢
    rw [scalar_size hT h1 (by simp) rfl] at hs
    exact scalar_of h2 hs ha
  | bool h1 h2 =>
    rw [h1] at ha ⊢
    rw [scalar_size hT h1 (by simp) rfl] at hs
    exact scalar_of h2 hs ha
  | str h1 h2 =>
    rw [h1] at ha ⊢
    rw [scalar_size hT h1 (by simp) rfl] at hs
    exact scalar_of h2 hs ha
  | tu h1 h2 h3 =>
    have hh := h1
    rw [h1]
    exact ⟨⟨hc0, hs, ha⟩, by rw [h1]; rfl⟩
  | arr h1 h2 h3 =>
    have hh := h1
    rw [h1]
    exact ⟨⟨hc0, hs, ha⟩, by rw [h1]; rfl⟩
  | nil h1 h2 =>
    rw [h1] at ha ⊢
    rw [scalar_size hT h1 (by simp) rfl] at hs
    have := scalar_of h2 hs ha
    exact .inl ⟨_, _, this, rfl⟩
  | sl h1 h2 h3 h4 =>
    rw [h1] at ha ⊢
    rw [scalar_size hT h1 (by simp) rfl] at hs
    have := scalar_of h2 hs ha
    exact .inr ⟨_, _, _, this, h3, h4⟩
theorem VR.int {I : Nat → Nat → Option Value} {t : TypeId} {k : IntKind} {n : Int} (hT : tabOk P T = true) (h : ty T t = .int k) : VR P T I t (.int k n) (.int k n) :=
  ⟨.int h rfl, by rw [scalar_size hT h (by simp) rfl]; rfl, by rw [h]; rfl⟩
theorem VR.sl {I : Nat → Nat → Option Value} {t e : TypeId} {es : List G} {v : Value} (hT : tabOk P T = true) (h : ty T t = .sl e) (hs : SLR P T I e es v) : VR P T I t v (.sl es) := by
  rcases hs with ⟨a, c, rfl, rfl⟩ | ⟨b, off, c, rfl, h2, h3⟩
  · exact ⟨.nil h rfl, by rw [scalar_size hT h (by simp) rfl]; rfl, by rw [h]; rfl⟩
  · exact ⟨.sl h rfl h2 h3, by rw [scalar_size hT h (by simp) rfl]; rfl, by rw [h]; rfl⟩
end
end Go.Proofs.Ytihipeicmbgegaa.Rf

namespace Go.Proofs.Ytihipeicmbgegaa.Rf
open Go Go.RowKit
set_option linter.unusedVariables false
set_option linter.unusedSimpArgs false
def updF {α : Type} (f : Nat → α) (o : Nat) (x : α) : Nat → α := fun k => if k = o then x else f k
@[simp] theorem updF_same {α : Type} (f : Nat → α) (o : Nat) (x : α) : updF f o x o = x := by simp [updF]
theorem updF_ne {α : Type} (f : Nat → α) {o k : Nat} (x : α) (h : k ≠ o) : updF f o x k = f k := by simp [updF, h]
section
variable {P : Program} {T : Tab}
theorem blk_lt_of {w : World} {b : Nat} {ob : Go.Obj} (h : w.heap[b]? = some ob) : b < w.heap.size := by
  rcases Nat.lt_or_ge b w.heap.size with h' | h'
  · exact h'
  · simp [Array.getElem?_eq_none h'] at h
theorem cell_block {w : World} {b : Nat} {cs : Array Value} {t : TypeId} {fr : Nat × Nat} (h : w.heap[b]? = some (.cells cs t fr)) (j : Nat) : w.cell? ⟨b, j, none⟩ = cs[j]? := by
  simp [World.cell?, h]
theorem cell_lt {w : World} {b off : Nat} {v : Value} (h : w.cell? ⟨b, off, none⟩ = some v) : b < w.heap.size := World.block_lt_of_cell? w _ h
theorem cell_same {w w' : World} {b : Nat} (h : w'.heap[b]? = w.heap[b]?) (off : Nat) : w'.cell? ⟨b, off, none⟩ = w.cell? ⟨b, off, none⟩ := World.cell?_of_block (a := ⟨b, off, none⟩) h
/-- A loose object's block is there. -/
theorem OR.lt {base : Nat} {B : List Nat} {gh : Gh} {w : World} {o : Nat} {ob : Obj} (h : OR P T base B gh w o ob) (hl : loose ob = true) {b : Nat} (hb : blkV (gh.V o) = some b) : b < w.heap.size := by
  cases ob with
  | var t g m =>
    cases m with
    | own =>
      obtain ⟨_, b', h1, _, cs, t', h2, _⟩ := h
      rw [h1] at hb
      obtain rfl : b' = b := by simpa [blkV] using hb
      exact blk_lt_of h2
    | ref =>
      obtain ⟨_, b', h1, _, cs, t', h2, _⟩ := h
      rw [h1] at hb
      obtain rfl : b' = b := by simpa [blkV] using hb
      exact blk_lt_of h2
    | fz => cases hl
  | row e es m =>
    cases m with
    | own =>
      obtain ⟨_, ⟨a, h1, _⟩ | ⟨xs, h1, _⟩⟩ := h
      · rw [h1] at hb; cases a <;> simp [blkV] at hb
      · obtain ⟨_, ⟨h2, _⟩ | ⟨g, cap, cur, h2, _, h3, _⟩⟩ := h1
        · rw [h2] at hb; simp [blkV] at hb
        · rw [h2] at hb
          cases cap with
          | zero => simp [blkV] at hb
          | succ cap =>
            obtain rfl : g = b := by simpa [blkV] using hb
            exact blk_lt_of h3
    | ref => exact h.elim
    | fz => cases hl
  | dead => cases hl
/-- A loose object's block is known to nobody else. -/
theorem OR.apart {base : Nat} {B : List Nat} {gh : Gh} {w : World} {o : Nat} {ob : Obj} (h : OR P T base B gh w o ob) (hl : loose ob = true) {b : Nat} (hb : blkV (gh.V o) = some b) : (∀ off, gh.I b off = none) ∧ (base ≤ b ∨ b ∈ B) := by
  cases ob with
  | var t g m =>
    cases m with
    | own =>
      obtain ⟨_, b', h1, h0, cs, t', h2, _, _, h3⟩ := h
      rw [h1] at hb
      obtain rfl : b' = b := by simpa [blkV] using hb
      exact ⟨h3, .inl h0⟩
    | ref =>
      obtain ⟨_, b', h1, h0, cs, t', h2, _, _, h3⟩ := h
      rw [h1] at hb
      obtain rfl : b' = b := by simpa [blkV] using hb
      exact ⟨h3, .inr h0⟩
    | fz => cases hl
  | row e es m =>
    cases m with
    | own =>
      obtain ⟨_, ⟨a, h1, _⟩ | ⟨xs, h1, _, h4⟩⟩ := h
      · rw [h1] at hb; cases a <;> simp [blkV] at hb
      · refine ⟨h4 b hb, .inl ?_⟩
        obtain ⟨_, ⟨h2, _⟩ | ⟨g, cap, cur, h2, h0, h3, _⟩⟩ := h1
        · rw [h2] at hb; simp [blkV] at hb
        · rw [h2] at hb
          cases cap with
          | zero => simp [blkV] at hb
          | succ cap =>
            obtain rfl : g = b := by simpa [blkV] using hb
            exact h0
    | ref => exact h.elim
    | fz => cases hl
  | dead => cases hl
theorem Elems.mono {I I' : Nat → Nat → Option Value} (hI : ∀ b o v, I b o = some v → I' b o = some v) {e : TypeId} {xs : List Value} {es : List G} (h : Elems P T I e xs es) : Elems P T I' e xs es :=
  fun i hi => (h i hi).mono hI fun _ _ h => h
theorem ownsRow_of {base : Nat} {e : TypeId} {s : Nat} {v : Value} {n : Nat} {xs : List Value} {w w' : World} (h : w.ownsRow base e s v n xs) (hb : ∀ b, blkV v = some b → w'.heap[b]? = w.heap[b]?) (hz : blkV v = none → ∀ b, v.ownBlock = some b → w'.heap[b]? = w.heap[b]?) : w'.ownsRow base e s v n xs := by
  obtain ⟨h1, h2⟩ := h
  refine ⟨h1, ?_⟩
  rcases h2 with h2 | ⟨g, cap, cur, h3, h4, h5, h6, h7, h8, h9⟩
  · exact .inl h2
  · refine .inr ⟨g, cap, cur, h3, h4, ?_, h6, h7, h8, h9⟩
    subst h3
    cases cap with
    | zero => rw [hz rfl g rfl]; exact h5
    | succ cap => rw [hb g rfl]; exact h5
/-- A row without room is as good as none. -/
theorem ownsRow_zero {base : Nat} {e : TypeId} {s : Nat} {v : Value} {n : Nat} {xs : List Value} {w : World} (h : w.ownsRow base e s v n xs) (hz : blkV v = none) : n = 0 ∧ ∃ a, v = .slice a 0 0 := by
  obtain ⟨h1, ⟨h2, h3⟩ | ⟨g, cap, cur, h3, h4, h5, h6, h7, h8, h9⟩⟩ := h
  · exact ⟨h3, none, h2⟩
  · subst h3
    cases cap with
    | zero => obtain rfl : n = 0 := by omega
              exact ⟨rfl, _, rfl⟩
    | succ cap => simp [blkV] at hz
/-- An object that nothing has turned. -/
theorem OR.keep {base : Nat} {B : List Nat} {gh gh' : Gh} {w w' : World} {o : Nat} {ob : Obj} (h : OR P T base B gh w o ob) (hI : ∀ b off v, gh.I b off = some v → gh'.I b off = some v) (hV : gh'.V o = gh.V o) (hY : gh'.Y o = gh.Y o)
    (hn : loose ob = true → ∀ b, blkV (gh.V o) = some b → w'.heap[b]? = w.heap[b]? ∧ ∀ off, gh'.I b off = none) : OR P T base B gh' w' o ob := by
  cases ob with
  | var t g m =>
    cases m with
    | own =>
      obtain ⟨h0, b, h1, h2, cs, t', h3, h4, h5, h6⟩ := h
      have hb : blkV (gh.V o) = some b := by rw [h1]; rfl
      have := hn rfl b hb
      exact ⟨hY.trans h0, b, hV.trans h1, h2, cs, t', by rw [this.1]; exact h3, h4, h5.mono hI fun _ _ h => h, this.2⟩
    | ref =>
      obtain ⟨h0, b, h1, h2, cs, t', h3, h4, h5, h6⟩ := h
      have hb : blkV (gh.V o) = some b := by rw [h1]; rfl
      have := hn rfl b hb
      exact ⟨hY.trans h0, b, hV.trans h1, h2, cs, t', by rw [this.1]; exact h3, h4, h5.mono hI fun _ _ h => h, this.2⟩
    | fz =>
      obtain ⟨h0, b, h1, h2⟩ := h
      exact ⟨hY.trans h0, b, hV.trans h1, h2.mono hI fun _ _ h => hI _ _ _ h⟩
  | row e es m =>
    cases m with
    | own =>
      obtain ⟨h0, ⟨a, h1, h2⟩ | ⟨xs, h1, h2, h3⟩⟩ := h
      · exact ⟨hY.trans h0, .inl ⟨a, hV.trans h1, h2⟩⟩
      · cases hz : blkV (gh.V o) with
        | none =>
          obtain ⟨hn0, a, ha⟩ := ownsRow_zero h1 hz
          exact ⟨hY.trans h0, .inl ⟨a, hV.trans ha, List.eq_nil_of_length_eq_zero hn0⟩⟩
        | some b =>
          have := hn rfl b hz
          refine ⟨hY.trans h0, .inr ⟨xs, ?_, h2.mono hI, fun b' hb' => ?_⟩⟩
          · rw [hV]
            exact ownsRow_of h1 (fun b' hb' => by rw [hz] at hb'; obtain rfl : b = b' := by simpa using hb'
                                                  exact this.1) (fun hz' => by rw [hz] at hz'; cases hz')
          · rw [hV, hz] at hb'
            obtain rfl : b = b' := by simpa using hb'
            exact this.2
    | ref => exact h.elim
    | fz =>
      obtain ⟨h0, h1⟩ := h
      exact ⟨hY.trans h0, by rw [hV]; exact h1.mono hI⟩
  | dead => trivial
theorem Upto.refl (B : List Nat) (w : World) : Upto B w w := ⟨rfl, rfl, rfl, Nat.le_refl _, fun _ _ _ => rfl⟩
/-- From a world on: the blocks ch are turned, new ones are there. -/
theorem Upto.step {B ch : List Nat} {w0 w w' : World} (h : Upto B w0 w) (k : Upto ch w w') (hch : ∀ b ∈ ch, b ∈ B ∨ w0.heap.size ≤ b) : Upto B w0 w' :=
  ⟨k.os.trans h.os, k.tape.trans h.tape, k.output.trans h.output, Nat.le_trans h.size k.size, fun i hi hb =>
    (k.block i (Nat.lt_of_lt_of_le hi h.size) (fun hc => by rcases hch i hc with hx | hx; exact hb hx; omega)).trans (h.block i hi hb)⟩
variable {B : List Nat} {I0 : Nat → Nat → Option Value} {w0 : World} {gh : Gh} {w : World} {H : Nat → Option Obj}
theorem HR.imm_lt (h : HR P T B I0 w0 gh w H) {b off : Nat} {v : Value} (hv : gh.I b off = some v) : b < w.heap.size := cell_lt (h.imm _ _ _ hv)
theorem HR.fresh_none (h : HR P T B I0 w0 gh w H) {b : Nat} (hb : w.heap.size ≤ b) (off : Nat) : gh.I b off = none := by
  cases hi : gh.I b off with
  | none => rfl
  | some v => have := h.imm_lt hi; omega
/-- One step: some blocks are turned, some objects. -/
theorem HR.step (h : HR P T B I0 w0 gh w H) {gh' : Gh} {w' : World} {H' : Nat → Option Obj} {ch : List Nat} (hup : Upto ch w w') (hch : ∀ b ∈ ch, (b ∈ B ∨ w0.heap.size ≤ b) ∧ ∀ off, gh.I b off = none)
    (hI : ∀ b off v, gh.I b off = some v → gh'.I b off = some v)
    (hnew : ∀ b off v, gh'.I b off = some v → gh.I b off = some v ∨ (w'.cell? ⟨b, off, none⟩ = some v ∧ w0.heap.size ≤ b))
    (hobj : ∀ o ob, H' o = some ob → (H o = some ob ∧ gh'.V o = gh.V o ∧ gh'.Y o = gh.Y o ∧ (loose ob = true → ∀ b, blkV (gh.V o) = some b → b ∉ ch ∧ ∀ off, gh'.I b off = none)) ∨ OR P T w0.heap.size B gh' w' o ob)
    (hsep : ∀ o o' ob ob' b, o ≠ o' → H' o = some ob → H' o' = some ob' → loose ob = true → loose ob' = true → blkV (gh'.V o) = some b → blkV (gh'.V o') ≠ some b) : HR P T B I0 w0 gh' w' H' where
  up := h.up.step hup fun b hb => (hch b hb).1
  imm := by
    intro b off v hv
    rcases hnew _ _ _ hv with hv' | hv'
    · have hc : b ∉ ch := fun hc => by have := (hch b hc).2 off; rw [hv'] at this; cases this
      rw [cell_same (hup.block b (h.imm_lt hv') hc)]
      exact h.imm _ _ _ hv'
    · exact hv'.1
  ext := fun b off v hv => hI _ _ _ (h.ext _ _ _ hv)
  old := by
    intro b off hb
    rw [← h.old b off hb]
    cases hv : gh'.I b off with
    | none =>
      cases hv2 : gh.I b off with
      | none => rfl
      | some v => rw [hI _ _ _ hv2] at hv; cases hv
    | some v =>
      rcases hnew _ _ _ hv with hv' | hv'
      · exact hv'.symm
      · omega
  inB := h.inB
  obj := by
    intro o ob ho
    rcases hobj o ob ho with ⟨h1, h2, h3, h4⟩ | h1
    · have hor := h.obj o ob h1
      refine hor.keep hI h2 h3 fun hl b hb => ?_
      have := h4 hl b hb
      exact ⟨hup.block b (hor.lt hl hb) this.1, this.2⟩
    · exact h1
  sep := hsep
theorem HR.blk_lt (h : HR P T B I0 w0 gh w H) {o : Nat} {ob : Obj} (ho : H o = some ob) (hl : loose ob = true) {b : Nat} (hb : blkV (gh.V o) = some b) : b < w.heap.size := (h.obj o ob ho).lt hl hb
end
end Go.Proofs.Ytihipeicmbgegaa.Rf

namespace Go.Proofs.Ytihipeicmbgegaa.Rf
open Go Go.RowKit
set_option linter.unusedVariables false
set_option linter.unusedSimpArgs false
def Gh.put (gh : Gh) (d : Nat) (v : Value) (y : Root) : Gh := { I := gh.I, V := updF gh.V d v, Y := updF gh.Y d y }
section
variable {P : Program} {T : Tab} {B : List Nat} {I0 : Nat → Nat → Option Value} {w0 : World} {gh : Gh} {w : World} {H : Nat → Option Obj}
theorem Gh.le_put {d : Nat} (hd : H d = none) (v : Value) (y : Root) : Gh.le H gh (gh.put d v y) :=
  ⟨fun _ _ _ h => h, fun o ho => by
    have : o ≠ d := fun e => by rw [e, hd] at ho; cases ho
    exact ⟨updF_ne _ _ this, updF_ne _ _ this⟩⟩
theorem HR.quiet (h : HR P T B I0 w0 gh w H) {w' : World} (hup : Upto [] w w') : HR P T B I0 w0 gh w' H :=
  h.step hup (fun b hb => by cases hb) (fun _ _ _ h => h) (fun b off v hv => .inl hv) (fun o ob ho => .inl ⟨ho, rfl, rfl, fun hl b hb => ⟨by simp, ((h.obj o ob ho).apart hl hb).1⟩⟩) h.sep
theorem Upto.alloc (w : World) (o : Go.Obj) : Upto [] w (w.alloc o) := ⟨rfl, rfl, rfl, by simp, fun k hk _ => Below.heap_alloc w o k hk⟩
theorem Upto.drew (w : World) : Upto [] w w.drew := ⟨rfl, rfl, rfl, Nat.le_refl _, fun _ _ _ => rfl⟩
theorem Upto.trans {a b : List Nat} {w w1 w2 : World} (h : Upto a w w1) (k : Upto b w1 w2) (hb : ∀ x ∈ b, x ∈ a ∨ w.heap.size ≤ x) : Upto a w w2 := h.step k hb
/-- Separation, with one object anew. -/
theorem sep_upd (h : HR P T B I0 w0 gh w H) {d : Nat} {v : Value} {y : Root} {ob : Obj} (hd : ∀ o' ob' b, o' ≠ d → H o' = some ob' → loose ob' = true → loose ob = true → blkV v = some b → blkV (gh.V o') ≠ some b) :
    ∀ o o' ob1 ob' b, o ≠ o' → updF H d (some ob) o = some ob1 → updF H d (some ob) o' = some ob' → loose ob1 = true → loose ob' = true → blkV ((gh.put d v y).V o) = some b → blkV ((gh.put d v y).V o') ≠ some b := by
  intro o o' ob1 ob' b hne h1 h2 l1 l2 hb hb'
  simp only [Gh.put] at hb hb'
  by_cases e : o = d
  · subst e
    have hne' : o' ≠ o := Ne.symm hne
    rw [updF_same] at h1 hb
    rw [updF_ne _ _ hne'] at h2 hb'
    obtain rfl : ob = ob1 := by simpa using h1
    exact hd o' ob' b hne' h2 l2 l1 hb hb'
  · rw [updF_ne _ _ e] at h1 hb
    by_cases e' : o' = d
    · subst e'
      rw [updF_same] at h2 hb'
      obtain rfl : ob = ob' := by simpa using h2
      exact hd o ob1 b e h1 l1 l2 hb' hb
    · rw [updF_ne _ _ e'] at h2 hb'
      exact h.sep o o' ob1 ob' b hne h1 h2 l1 l2 hb hb'
/-- A new object in new memory (or in none). -/
theorem HR.add (h : HR P T B I0 w0 gh w H) {w' : World} {d : Nat} {v : Value} {y : Root} {ob : Obj} (hd : H d = none) (hup : Upto [] w w')
    (hv : loose ob = true → ∀ b, blkV v = some b → w.heap.size ≤ b) (hor : OR P T w0.heap.size B (gh.put d v y) w' d ob) : HR P T B I0 w0 (gh.put d v y) w' (updF H d (some ob)) := by
  refine h.step hup (fun b hb => by cases hb) (fun _ _ _ h => h) (fun b off v hv => .inl hv) (fun o ob' ho => ?_) (sep_upd h fun o' ob' b hne ho' hl' hl hb => ?_)
  · by_cases e : o = d
    · subst e
      rw [updF_same] at ho
      obtain rfl : ob = ob' := by simpa using ho
      exact .inr hor
    · rw [updF_ne _ _ e] at ho
      exact .inl ⟨ho, updF_ne _ _ e, updF_ne _ _ e, fun hl b hb => ⟨by simp, ((h.obj o ob' ho).apart hl hb).1⟩⟩
  · intro hc
    have := h.blk_lt ho' hl' hc
    have := hv hl b hb
    omega
theorem heap_new (w : World) (o : Go.Obj) : (w.alloc o).heap[w.heap.size]? = some o := by
  show (w.heap.push o)[w.heap.size]? = some o
  simp
theorem HR.newVar (h : HR P T B I0 w0 gh w H) {d : Nat} {t : TypeId} {g : G} {cs : Array Value} (hd : H d = none) (hc : CR P T gh.I t (fun j => cs[j]?) g) (hs : cs.size = sz P t) :
    HR P T B I0 w0 (gh.put d (.pointer (some ⟨w.heap.size, 0, none⟩)) (.var t)) (w.alloc (.cells cs t)) (updF H d (some (.var t g .own))) := by
  refine h.add hd (Upto.alloc w _) (fun _ b hb => ?_) ?_
  · obtain rfl : w.heap.size = b := by simpa [blkV] using hb
    exact Nat.le_refl _
  · refine ⟨updF_same _ _ _, w.heap.size, updF_same _ _ _, h.up.size, cs, t, ?_, hs, hc, h.fresh_none (Nat.le_refl _)⟩
    exact heap_new w _
theorem HR.newRow (h : HR P T B I0 w0 gh w H) {w' : World} {d : Nat} {e : TypeId} {es : List G} {v : Value} {xs : List Value} (hd : H d = none) (hup : Upto [] w w')
    (hv : ∀ b, blkV v = some b → w.heap.size ≤ b) (hown : w'.ownsRow w0.heap.size e (sz P e) v es.length xs) (hel : Elems P T gh.I e xs es) :
    HR P T B I0 w0 (gh.put d v (.row e)) w' (updF H d (some (.row e es .own))) := by
  refine h.add hd hup (fun _ => hv) ⟨updF_same _ _ _, .inr ⟨xs, ?_, hel, fun b hb off => ?_⟩⟩
  · simpa [Gh.put] using hown
  · simp only [Gh.put, updF_same] at hb
    exact h.fresh_none (hv b hb) off
theorem HR.newEmpty (h : HR P T B I0 w0 gh w H) {d : Nat} {e : TypeId} {a : Option Addr} (hd : H d = none) :
    HR P T B I0 w0 (gh.put d (.slice a 0 0) (.row e)) w (updF H d (some (.row e [] .own))) :=
  h.add hd (Upto.refl _ w) (fun _ b hb => by cases a <;> simp [blkV] at hb) ⟨updF_same _ _ _, .inl ⟨a, updF_same _ _ _, rfl⟩⟩
/-- An object's data turned. -/
theorem HR.turn (h : HR P T B I0 w0 gh w H) {w' : World} {o b : Nat} {ob ob' : Obj} (ho : H o = some ob) (hl : loose ob = true) (hb : blkV (gh.V o) = some b) (hup : Upto [b] w w') (hor : OR P T w0.heap.size B gh w' o ob') :
    HR P T B I0 w0 gh w' (updF H o (some ob')) := by
  have hap := (h.obj o ob ho).apart hl hb
  refine h.step hup (fun x hx => ?_) (fun _ _ _ h => h) (fun b off v hv => .inl hv) (fun x obx hx => ?_) (fun x x' ob1 ob2 c hne h1 h2 l1 l2 hc hc' => ?_)
  · obtain rfl : x = b := by simpa using hx
    exact ⟨hap.2.symm, hap.1⟩
  · by_cases e : x = o
    · subst e
      rw [updF_same] at hx
      obtain rfl : ob' = obx := by simpa using hx
      exact .inr hor
    · rw [updF_ne _ _ e] at hx
      refine .inl ⟨hx, rfl, rfl, fun hl' c hc => ⟨?_, ((h.obj x obx hx).apart hl' hc).1⟩⟩
      intro hcb
      obtain rfl : c = b := by simpa using hcb
      exact h.sep o x ob obx c (Ne.symm e) ho hx hl hl' hb hc
  · have key : ∀ x obx, updF H o (some ob') x = some obx → loose obx = true → ∃ oby, H x = some oby ∧ (loose oby = true) := by
      intro x obx hx hlx
      by_cases e : x = o
      · subst e; exact ⟨ob, ho, hl⟩
      · rw [updF_ne _ _ e] at hx; exact ⟨obx, hx, hlx⟩
    obtain ⟨a1, b1, c1⟩ := key x ob1 h1 l1
    obtain ⟨a2, b2, c2⟩ := key x' ob2 h2 l2
    exact h.sep x x' a1 a2 c hne b1 b2 c1 c2 hc hc'
/-- An object that is not loose any more, the memory known from now on. -/
theorem HR.fix (h : HR P T B I0 w0 gh w H) {o : Nat} {ob ob' : Obj} (ho : H o = some ob) (hl : loose ob' = false) {I' : Nat → Nat → Option Value} (hI : ∀ b off v, gh.I b off = some v → I' b off = some v)
    (hnew : ∀ b off v, I' b off = some v → gh.I b off = some v ∨ (w.cell? ⟨b, off, none⟩ = some v ∧ w0.heap.size ≤ b ∧ loose ob = true ∧ blkV (gh.V o) = some b)) (hor : OR P T w0.heap.size B { gh with I := I' } w o ob') :
    HR P T B I0 w0 { gh with I := I' } w (updF H o (some ob')) := by
  have hdis : ∀ x obx, x ≠ o → H x = some obx → loose obx = true → ∀ b, blkV (gh.V x) = some b → ∀ off, I' b off = none := by
    intro x obx hne hx hlx b hb off
    cases hv : I' b off with
    | none => rfl
    | some v =>
      rcases hnew _ _ _ hv with h1 | ⟨_, _, h3, h4⟩
      · rw [((h.obj x obx hx).apart hlx hb).1] at h1; cases h1
      · exact absurd hb (h.sep o x ob obx b (Ne.symm hne) ho hx h3 hlx h4)
  refine h.step (ch := []) (Upto.refl _ w) (fun x hx => by cases hx) hI (fun b off v hv => ?_) (fun x obx hx => ?_) (fun x x' ob1 ob2 c hne h1 h2 l1 l2 hc hc' => ?_)
  · rcases hnew _ _ _ hv with h1 | ⟨h1, h2, _⟩
    · exact .inl h1
    · exact .inr ⟨h1, h2⟩
  · by_cases e : x = o
    · subst e
      rw [updF_same] at hx
      obtain rfl : ob' = obx := by simpa using hx
      exact .inr hor
    · rw [updF_ne _ _ e] at hx
      exact .inl ⟨hx, rfl, rfl, fun hl' c hc => ⟨by simp, hdis x obx e hx hl' c hc⟩⟩
  · have key : ∀ x obx, updF H o (some ob') x = some obx → loose obx = true → H x = some obx := by
      intro x obx hx hlx
      by_cases e : x = o
      · subst e; rw [updF_same] at hx; obtain rfl : ob' = obx := by simpa using hx
        rw [hl] at hlx; cases hlx
      · rw [updF_ne _ _ e] at hx; exact hx
    exact h.sep x x' ob1 ob2 c hne (key x ob1 h1 l1) (key x' ob2 h2 l2) l1 l2 hc hc'
theorem HR.kill (h : HR P T B I0 w0 gh w H) {o : Nat} {ob : Obj} (ho : H o = some ob) : HR P T B I0 w0 gh w (updF H o (some .dead)) :=
  h.fix ho rfl (fun _ _ _ h => h) (fun b off v hv => .inl hv) trivial
/-- What a block holds, known too. -/
def also (I : Nat → Nat → Option Value) (b : Nat) (f : Nat → Option Value) : Nat → Nat → Option Value := fun c off => if c = b then f off else I c off
theorem HR.share (h : HR P T B I0 w0 gh w H) {o : Nat} {e : TypeId} {es : List G} (ho : H o = some (.row e es .own)) :
    ∃ I', (∀ b off v, gh.I b off = some v → I' b off = some v) ∧ SLR P T I' e es (gh.V o) ∧ HR P T B I0 w0 { gh with I := I' } w (updF H o (some (.row e es .fz))) := by
  have hor := h.obj o _ ho
  obtain ⟨hY, ⟨a, h1, h2⟩ | ⟨xs, h1, h2, h3⟩⟩ := hor
  · refine ⟨gh.I, fun _ _ _ h => h, .inl ⟨a, 0, h1, h2⟩, h.fix ho rfl (fun _ _ _ h => h) (fun b off v hv => .inl hv) ⟨hY, .inl ⟨a, 0, h1, h2⟩⟩⟩
  · cases hz : blkV (gh.V o) with
    | none =>
      obtain ⟨hn, a, ha⟩ := ownsRow_zero h1 hz
      have he := List.eq_nil_of_length_eq_zero hn
      exact ⟨gh.I, fun _ _ _ h => h, .inl ⟨a, 0, ha, he⟩, h.fix ho rfl (fun _ _ _ h => h) (fun b off v hv => .inl hv) ⟨hY, .inl ⟨a, 0, ha, he⟩⟩⟩
    | some b =>
      obtain ⟨hlen, ⟨h4, _⟩ | ⟨g, cap, cur, h4, h5, h6, h7, h8, h9, h10⟩⟩ := h1
      · rw [h4] at hz; cases hz
      · have hcap : g = b := by
          rw [h4] at hz
          cases cap with
          | zero => cases hz
          | succ cap => simpa [blkV] using hz
        subst hcap
        have hI : ∀ b off v, gh.I b off = some v → also gh.I g (fun off => cur[off]?) b off = some v := by
          intro b off v hv
          unfold also
          split
          · rename_i e'; subst e'; rw [h3 _ hz off] at hv; cases hv
          · exact hv
        have hS : SLR P T (also gh.I g fun off => cur[off]?) e es (gh.V o) := by
          refine .inr ⟨g, 0, cap, h4, h7, fun i hi => ?_⟩
          refine (h2 i hi).mono hI fun j v hv => ?_
          have hlt : i * sz P e + j < xs.length := by
            rcases Nat.lt_or_ge (i * sz P e + j) xs.length with h' | h'
            · exact h'
            · rw [List.getElem?_eq_none h'] at hv; cases hv
          simp only [also, if_true, Nat.zero_add]
          rw [← h10, List.getElem?_take] at hv
          split at hv
          · simpa using hv
          · cases hv
        refine ⟨_, hI, hS, h.fix ho rfl hI (fun b off v hv => ?_) ⟨hY, hS⟩⟩
        unfold also at hv
        split at hv
        · rename_i e'; subst e'
          exact .inr ⟨by rw [cell_block h6]; exact hv, h5, rfl, hz⟩
        · exact .inl hv
theorem HR.shareVar (h : HR P T B I0 w0 gh w H) {o : Nat} {t : TypeId} {g : G} (ho : H o = some (.var t g .own)) :
    ∃ I', (∀ b off v, gh.I b off = some v → I' b off = some v) ∧ HR P T B I0 w0 { gh with I := I' } w (updF H o (some (.var t g .fz))) := by
  obtain ⟨hY, b, h1, h2, cs, t', h3, h4, h5, h6⟩ := h.obj o _ ho
  have hI : ∀ c off v, gh.I c off = some v → also gh.I b (fun off => cs[off]?) c off = some v := by
    intro c off v hv
    unfold also
    split
    · rename_i e'; subst e'; rw [h6 off] at hv; cases hv
    · exact hv
  refine ⟨_, hI, h.fix ho rfl hI (fun c off v hv => ?_) ⟨hY, b, h1, ?_⟩⟩
  · unfold also at hv
    split at hv
    · rename_i e'; subst e'
      exact .inr ⟨by rw [cell_block h3]; exact hv, h2, rfl, by rw [h1]; rfl⟩
    · exact .inl hv
  · exact h5.mono hI fun j v hv => by simpa [also] using hv
end
end Go.Proofs.Ytihipeicmbgegaa.Rf

namespace Go.Proofs.Ytihipeicmbgegaa.Rf
open Go Go.RowKit
set_option linter.unusedVariables false
set_option linter.unusedSimpArgs false
section
variable {P : Program} {T : Tab} {I : Nat → Nat → Option Value}
theorem und_int (hT : tabOk P T = true) {t : TypeId} {k : IntKind} (h : ty T t = .int k) : P.underlying t = some (.int k) := by
  have := (tabOk_at hT h (by simp)).1
  simp only [tyOk, Bool.and_eq_true] at this
  split at this
  · rename_i k' hu; rw [hu, eqK_eq this.1]
  · cases this.1
theorem und_bool (hT : tabOk P T = true) {t : TypeId} (h : ty T t = .bool) : P.underlying t = some .bool := by
  have := (tabOk_at hT h (by simp)).1
  simp only [tyOk, Bool.and_eq_true] at this
  split at this
  · rename_i hu; exact hu
  · cases this.1
theorem und_str (hT : tabOk P T = true) {t : TypeId} (h : ty T t = .str) : P.underlying t = some .string := by
  have := (tabOk_at hT h (by simp)).1
  simp only [tyOk, Bool.and_eq_true] at this
  split at this
  · rename_i hu; exact hu
  · cases this.1
theorem und_sl (hT : tabOk P T = true) {t e : TypeId} (h : ty T t = .sl e) : P.underlying t = some (.slice e) ∧ 0 < sz P e ∧ P.bytesOf e ≤ 2048 ∧ sz P e ≤ 2048 := by
  have := (tabOk_at hT h (by simp)).1
  simp only [tyOk, Bool.and_eq_true] at this
  obtain ⟨⟨⟨⟨h1, h2⟩, h3⟩, h4⟩, h5⟩ := this
  refine ⟨?_, by simpa using h3, by simpa using h4, by simpa using h5⟩
  split at h1
  · rename_i e' hu; rw [hu, beqI h1]
  · cases h1
theorem und_arr (hT : tabOk P T = true) {t e : TypeId} {n : Nat} (h : ty T t = .arr n e) : P.underlying t = some (.array n e) := by
  have := (tabOk_at hT h (by simp)).1
  simp only [tyOk, Bool.and_eq_true] at this
  obtain ⟨⟨h1, h2⟩, h3⟩ := this
  split at h1
  · rename_i n' e' hu
    simp only [Bool.and_eq_true] at h1
    rw [hu, beqI h1.1, beqI h1.2]
  · cases h1
theorem fieldsOk_at : ∀ (fs : List Field) (o : Nat), fieldsOk P o fs = true → ∀ i f, fs[i]? = some f → f.offset = o + offs P (fs.map (·.type)) i ∧ 0 < sz P f.type ∧ f.name ≠ "_"
  | [], _, _, i, f, h => by simp at h
  | f0 :: r, o, hok, 0, f, h => by
    simp only [List.getElem?_cons_zero, Option.some.injEq] at h
    subst h
    simp only [fieldsOk, Bool.and_eq_true] at hok
    refine ⟨?_, by simpa using hok.1.1.2, by simpa using hok.1.2⟩
    simp [offs, beqI hok.1.1.1]
  | f0 :: r, o, hok, i + 1, f, h => by
    simp only [fieldsOk, Bool.and_eq_true] at hok
    have := fieldsOk_at r _ hok.2 i f (by simpa using h)
    refine ⟨?_, this.2⟩
    rw [this.1]
    simp only [List.map_cons, offs]
    omega
theorem und_tu (hT : tabOk P T = true) {t : TypeId} {ts : List TypeId} (h : ty T t = .tu ts) : ∃ fs : Array Field, P.underlying t = some (.struct fs) ∧ fs.toList.map (·.type) = ts ∧ (P.stoodInHeld t = false ∧ P.eqGuardType P.depth t = false) ∧
    ∀ i f, fs[i]? = some f → f.offset = offs P ts i ∧ ts[i]? = some f.type ∧ 0 < sz P f.type ∧ f.name ≠ "_" := by
  have := (tabOk_at hT h (by simp)).1
  simp only [tyOk, Bool.and_eq_true] at this
  obtain ⟨h1, h2⟩ := this
  split at h1
  · rename_i fs hu
    simp only [Bool.and_eq_true, Bool.not_eq_true'] at h1
    have he := eqL_eq _ _ h1.1.1.1
    refine ⟨fs, hu, he, ⟨h1.1.2, h1.2⟩, fun i f hf => ?_⟩
    have hf' : fs.toList[i]? = some f := by simpa using hf
    have := fieldsOk_at fs.toList 0 h1.1.1.2 i f hf'
    rw [he] at this
    refine ⟨by omega, ?_, this.2⟩
    rw [← he, List.getElem?_map, hf']; rfl
  · cases h1
theorem info_of (hT : tabOk P T = true) {t : TypeId} (h : ty T t ≠ .other) : ∃ i z, P.info? t = some i ∧ i.size = sz P t ∧ i.zero = some z ∧ i.bytes = P.bytesOf t ∧ lies P T deep t z.cells.toList (zero T deep t) = true ∧ z.cells.size = sz P t := by
  have := (tabOk_at hT rfl h).2
  unfold zeroOk at this
  cases hi : P.info? t with
  | none => simp [hi] at this
  | some i =>
    cases hz : i.zero with
    | none => simp [hi, hz] at this
    | some z =>
      simp only [hi, hz, Option.bind_some, Bool.and_eq_true] at this
      exact ⟨i, z, rfl, by simp [Program.cellsOf, hi], hz, by simp [Program.bytesOf, hi], this.1, beqI this.2⟩
theorem lies_CR (hT : tabOk P T = true) : ∀ (d : Nat) (t : TypeId) (cs : List Value) (g : G), lies P T d t cs g = true → CR P T I t (fun j => cs[j]?) g
  | 0, _, _, _, h => by simp [lies] at h
  | d + 1, t, cs, g, h => by
    have liesL : ∀ (ts : List TypeId) (cs : List Value) (gs : List G), lies.liesL P (lies P T d) ts cs gs = true → gs.length = ts.length ∧ ∀ i (h : i < ts.length) (h' : i < gs.length), CR P T I ts[i] (fun j => cs[offs P ts i + j]?) gs[i] := by
      intro ts
      induction ts with
      | nil =>
        intro cs gs h
        cases gs with
        | nil => exact ⟨rfl, fun i h => by simp at h⟩
        | cons g gs => simp [lies.liesL] at h
      | cons t ts ih =>
        intro cs gs h
        cases gs with
        | nil => simp [lies.liesL] at h
        | cons g gs =>
          simp only [lies.liesL, Bool.and_eq_true] at h
          obtain ⟨h1, h2⟩ := ih _ _ h.2
          refine ⟨by simp [h1], fun i hi hi' => ?_⟩
          cases i with
          | zero =>
            refine (lies_CR hT d t _ _ h.1).mono (fun _ _ _ h => h) fun j v hv => ?_
            rw [List.getElem?_take] at hv
            split at hv
            · simpa [offs] using hv
            · cases hv
          | succ i =>
            refine (h2 i (by simpa using hi) (by simpa using hi')).mono (fun _ _ _ h => h) fun j v hv => ?_
            rw [List.getElem?_drop] at hv
            rw [← hv]
            simp only [offs]
            congr 1
            omega
    simp only [lies] at h
    split at h
    · rename_i k k' n k'' m h1
      simp only [Bool.and_eq_true, decide_eq_true_eq] at h
      obtain ⟨⟨ha, hb⟩, rfl⟩ := h
      rw [← eqK_eq hb]
      exact .int h1 (by rw [← eqK_eq ha]; rfl)
    · rename_i b c h1
      have : b = c := by simpa using h
      subst this
      exact .bool h1 rfl
    · rename_i s l h1
      simp only [Bool.and_eq_true, List.isEmpty_iff] at h
      obtain ⟨ha, rfl⟩ := h
      refine .str h1 ?_
      have : s = ⟨⟨[]⟩⟩ := by cases s; rename_i d; cases d; simp at ha; subst ha; rfl
      rw [this]; rfl
    · rename_i e h1
      exact .nil h1 rfl
    · rename_i ts gs _ _ _ _ h1
      obtain ⟨h2, h3⟩ := liesL _ _ _ h
      exact .tu h1 h2 h3
    · rename_i n e gs h1
      obtain ⟨h2, h3⟩ := liesL _ _ _ h
      have ho : ∀ n i, i ≤ n → offs P (List.replicate n e) i = i * sz P e := by
        intro n
        induction n with
        | zero => intro i hi; obtain rfl : i = 0 := by omega
                  simp [offs]
        | succ n ih =>
          intro i hi
          cases i with
          | zero => simp [List.replicate_succ, offs]
          | succ i => rw [List.replicate_succ, offs, ih i (by omega), Nat.add_mul]; omega
      refine .arr h1 (by simpa using h2) fun i hi => ?_
      have hlt : i < n := by rw [List.length_replicate] at h2; omega
      have := h3 i (by simpa using hlt) hi
      simp only [List.getElem_replicate] at this
      rw [ho n i (by omega)] at this
      exact this
    · cases h
theorem zero_VR (hT : tabOk P T = true) {t : TypeId} {z : Value} (hl : lies P T deep t z.cells.toList (zero T deep t) = true) : CR P T I t (fun j => z.cells[j]?) (zero T deep t) := by
  have := lies_CR (I := I) hT _ _ _ _ hl
  simpa using this
end
end Go.Proofs.Ytihipeicmbgegaa.Rf

namespace Go.Proofs.Ytihipeicmbgegaa.Rf
open Go Go.RowKit
set_option linter.unusedVariables false
set_option linter.unusedSimpArgs false
def wrF : Ws → (Nat → Option Obj) → Nat → Option Obj
  | [], H => H
  | (o, x) :: r, H => wrF r (updF H o (some x))
theorem look_wrAll : ∀ (ws : Ws) (h : Heap), look (wrAll ws h) = wrF ws (look h)
  | [], h => rfl
  | (o, x) :: r, h => by
    rw [wrAll, look_wrAll r, wrF]
    congr 1
    funext k
    rw [look_put]
    by_cases e : o = k
    · subst e; simp
    · rw [if_neg e, updF_ne _ _ (fun h => e h.symm)]
theorem wrF_append : ∀ (a b : Ws) (H : Nat → Option Obj), wrF (a ++ b) H = wrF b (wrF a H)
  | [], _, _ => rfl
  | (o, x) :: r, b, H => wrF_append r b _
theorem wrF_other : ∀ (ws : Ws) (H : Nat → Option Obj) (o : Nat), (∀ x, (o, x) ∉ ws) → wrF ws H o = H o
  | [], _, _, _ => rfl
  | (o', x) :: r, H, o, h => by
    have hne : o ≠ o' := fun e => h x (by rw [e]; simp)
    rw [wrF, wrF_other r _ o (fun y hy => h y (List.mem_cons_of_mem _ hy)), updF_ne _ _ hne]
theorem wrF_some : ∀ (ws : Ws) (H : Nat → Option Obj) (o : Nat), (H o).isSome = true → (wrF ws H o).isSome = true
  | [], _, _, h => h
  | (o', x) :: r, H, o, h => by
    rw [wrF]
    refine wrF_some r _ o ?_
    by_cases e : o = o'
    · subst e; simp
    · rw [updF_ne _ _ e]; exact h
theorem wrF_mem : ∀ (ws : Ws) (H : Nat → Option Obj) (o : Nat) (x : Obj), (o, x) ∈ ws → (wrF ws H o).isSome = true
  | [], _, _, _, h => by cases h
  | (o', x') :: r, H, o, x, h => by
    rw [wrF]
    rcases List.mem_cons.1 h with h | h
    · obtain ⟨rfl, rfl⟩ : o = o' ∧ x = x' := by simpa using h
      exact wrF_some r _ o (by simp)
    · exact wrF_mem r _ o x h
/-- Each is an object that is shared, or is to be shared now. -/
def Sharing (H : Nat → Option Obj) (ws : Ws) : Prop :=
  ∀ p ∈ ws, (∃ e es, p.2 = .row e es .fz ∧ (H p.1 = some (.row e es .own) ∨ H p.1 = some (.row e es .fz))) ∨ ∃ t g, p.2 = .var t g .fz ∧ (H p.1 = some (.var t g .own) ∨ H p.1 = some (.var t g .fz))
theorem updF_eq {α : Type} {f : Nat → α} {o : Nat} {x : α} (h : f o = x) : updF f o x = f := by
  funext k
  by_cases e : k = o
  · subst e; simp [h]
  · exact updF_ne _ _ e
theorem Sharing.step {H : Nat → Option Obj} {o : Nat} {x : Obj} {r : Ws} (h : Sharing H ((o, x) :: r)) : Sharing (updF H o (some x)) r := by
  intro p hp
  have h1 := h p (List.mem_cons_of_mem _ hp)
  have h0 := h (o, x) (by simp)
  by_cases e : p.1 = o
  · rcases h1 with ⟨e1, es1, a1, b1⟩ | ⟨t1, g1, a1, b1⟩ <;> rcases h0 with ⟨e2, es2, a2, b2⟩ | ⟨t2, g2, a2, b2⟩ <;> simp only at a2 b2 <;> rw [e] at b1 <;> rw [e, updF_same, a2]
    · refine .inl ⟨e1, es1, a1, .inr ?_⟩
      rcases b1 with b1 | b1 <;> rcases b2 with b2 | b2 <;> rw [b1] at b2 <;> simp at b2 <;> simp [b2]
    · rcases b1 with b1 | b1 <;> rcases b2 with b2 | b2 <;> rw [b1] at b2 <;> simp at b2
    · rcases b1 with b1 | b1 <;> rcases b2 with b2 | b2 <;> rw [b1] at b2 <;> simp at b2
    · refine .inr ⟨t1, g1, a1, .inr ?_⟩
      rcases b1 with b1 | b1 <;> rcases b2 with b2 | b2 <;> rw [b1] at b2 <;> simp at b2 <;> simp [b2]
  · simp only [updF_ne _ _ e]
    exact h1
theorem Sharing.at : ∀ {ws : Ws} {H : Nat → Option Obj}, Sharing H ws → ∀ {o : Nat} {x : Obj}, (o, x) ∈ ws → wrF ws H o = some x
  | [], _, _, _, _, h => by cases h
  | (o', x') :: r, H, hs, o, x, h => by
    rw [wrF]
    have hs' := hs.step
    by_cases hm : ∃ y, (o, y) ∈ r
    · obtain ⟨y, hy⟩ := hm
      rw [hs'.at hy]
      rcases List.mem_cons.1 h with h | h
      · obtain ⟨rfl, rfl⟩ : o = o' ∧ x = x' := by simpa using h
        have h0 := hs' _ hy
        simp only [updF_same] at h0
        have h1 := hs _ (List.mem_cons_self)
        rcases h0 with ⟨e1, es1, a1, b1⟩ | ⟨t1, g1, a1, b1⟩ <;> rcases h1 with ⟨e2, es2, a2, b2⟩ | ⟨t2, g2, a2, b2⟩ <;> simp only at a2 a1 b1 <;> rw [a1] <;> rw [a2] at b1 ⊢ <;> simp at b1 <;> simp [b1]
      · have h1 := hs'.at h
        rw [hs'.at hy] at h1
        exact h1
    · rcases List.mem_cons.1 h with h | h
      · obtain ⟨rfl, rfl⟩ : o = o' ∧ x = x' := by simpa using h
        rw [wrF_other r _ o (fun y hy => hm ⟨y, hy⟩)]
        simp
      · exact absurd ⟨x, h⟩ hm
section
variable {P : Program} {T : Tab} {B : List Nat} {I0 : Nat → Nat → Option Value} {w0 : World} {gh : Gh} {w : World} {H : Nat → Option Obj}
theorem HR.shares : ∀ {ws : Ws} {gh : Gh} {H : Nat → Option Obj}, HR P T B I0 w0 gh w H → Sharing H ws → ∃ I', (∀ b off v, gh.I b off = some v → I' b off = some v) ∧ HR P T B I0 w0 { gh with I := I' } w (wrF ws H)
  | [], gh, H, h, _ => ⟨gh.I, fun _ _ _ h => h, h⟩
  | (o, x) :: r, gh, H, h, hs => by
    have key : ∃ I', (∀ b off v, gh.I b off = some v → I' b off = some v) ∧ HR P T B I0 w0 { gh with I := I' } w (updF H o (some x)) := by
      rcases hs (o, x) (by simp) with ⟨e, es, hx, ho | ho⟩ | ⟨t, g, hx, ho | ho⟩ <;> simp only at hx ho <;> subst hx
      · obtain ⟨I', h1, _, h2⟩ := h.share ho
        exact ⟨I', h1, h2⟩
      · rw [updF_eq ho]; exact ⟨gh.I, fun _ _ _ h => h, h⟩
      · exact h.shareVar ho
      · rw [updF_eq ho]; exact ⟨gh.I, fun _ _ _ h => h, h⟩
    obtain ⟨I1, h1, h2⟩ := key
    obtain ⟨I2, h3, h4⟩ := h2.shares hs.step
    exact ⟨I2, fun b off v hv => h3 _ _ _ (h1 _ _ _ hv), h4⟩
theorem share_ok (H : Nat → Option Obj) (a : AV) : Sharing H (share H a) := by
  intro p hp
  unfold share at hp
  split at hp
  · rename_i o
    split at hp
    · rename_i e es ho
      obtain rfl : p = (o, .row e es .fz) := by simpa using hp
      exact .inl ⟨e, es, rfl, .inl ho⟩
    · cases hp
  · cases hp
theorem Sharing.append {H : Nat → Option Obj} {a b : Ws} (h : Sharing H a) (k : Sharing H b) : Sharing H (a ++ b) := fun p hp => (List.mem_append.1 hp).elim (h p) (k p)
/-- A value's data, once its row is shared. -/
theorem conv_VR (hT : tabOk P T = true) {H' : Nat → Option Obj} (h : HR P T B I0 w0 gh w H') {t : TypeId} {v : Value} {a : AV} {g : G} (hv : AVR P T gh v a) (hc : conv T H t a = some g)
    (hs : ∀ p ∈ share H a, H' p.1 = some p.2) (hz : ∀ o e es, H o = some (.row e es .fz) → H' o = some (.row e es .fz)) : VR P T gh.I t v g := by
  unfold conv at hc
  split at hc
  · rename_i k n
    have hv : v = .int k n := hv
    split at hc
    · rename_i k' ht
      cases hk : eqK k k' with
      | false => simp [hk] at hc
      | true =>
        simp [hk] at hc
        subst hc hv
        obtain rfl := eqK_eq hk
        exact .int hT ht
    · cases hc
  · rename_i b
    have hv : v = .bool b := hv
    split at hc
    · rename_i ht
      obtain rfl : G.bool b = g := by simpa using hc
      subst hv
      exact ⟨.bool ht rfl, by rw [scalar_size hT ht (by simp) rfl]; rfl, by rw [ht]; rfl⟩
    · cases hc
  · rename_i l
    have hv : v = .string ⟨⟨l⟩⟩ := hv
    split at hc
    · rename_i ht
      obtain rfl : G.str l = g := by simpa using hc
      subst hv
      exact ⟨.str ht rfl, by rw [scalar_size hT ht (by simp) rfl]; rfl, by rw [ht]; rfl⟩
    · cases hc
  · rename_i t' g'
    cases hk : Nat.beq t t' with
    | false => simp [hk] at hc
    | true =>
      simp [hk] at hc
      subst hc
      obtain rfl := beqI hk
      exact hv.1
  · rename_i e es
    split at hc
    · rename_i e' ht
      cases hk : Nat.beq e e' with
      | false => simp [hk] at hc
      | true =>
        simp [hk] at hc
        subst hc
        obtain rfl := beqI hk
        exact .sl hT ht hv
    · cases hc
  · have hv : v = .slice none 0 0 := hv
    subst hv
    split at hc
    · rename_i e ht
      obtain rfl : G.sl [] = g := by simpa using hc
      exact .sl hT ht (.inl ⟨_, _, rfl, rfl⟩)
    · cases hc
  · rename_i o
    have hv : v = gh.V o := hv
    split at hc
    · rename_i e es e' ho ht
      cases hk : Nat.beq e e' with
      | false => simp [hk] at hc
      | true =>
        simp [hk] at hc
        subst hc
        obtain rfl := beqI hk
        have := hs (o, .row e es .fz) (by simp [share, ho])
        have := (h.obj o _ this).2
        rw [hv]
        exact .sl hT ht this
    · rename_i e es e' ho ht
      cases hk : Nat.beq e e' with
      | false => simp [hk] at hc
      | true =>
        simp [hk] at hc
        subst hc
        obtain rfl := beqI hk
        have := (h.obj o _ (hz o e es ho)).2
        rw [hv]
        exact .sl hT ht this
    · cases hc
  · cases hc
/-- What was shared stays so. -/
theorem wrF_fz {ws : Ws} (hs : Sharing H ws) : ∀ o e es, H o = some (.row e es .fz) → wrF ws H o = some (.row e es .fz) := by
  intro o e es ho
  by_cases hm : ∃ y, (o, y) ∈ ws
  · obtain ⟨y, hy⟩ := hm
    rw [hs.at hy]
    rcases hs _ hy with ⟨e1, es1, a1, b1⟩ | ⟨t1, g1, a1, b1⟩ <;> simp only at a1 b1 <;> rw [ho] at b1 <;> simp at b1 <;> simp [a1, b1]
  · rw [wrF_other ws H o (fun y hy => hm ⟨y, hy⟩)]
    exact ho
end
end Go.Proofs.Ytihipeicmbgegaa.Rf

