/- Part 3 of the proof of CondBack: the framework of abstract values and the walks over the functions that the law reaches. -/
import Derived.Attr
import Derived.ChangeKeysEq
import Derived.Laws.StructEq
import Derived.ChangeArms
import Derived.OpenShut
import Derived.WideShapes
import GoSem.ClaimJoined
import Derived.Test.YtlfincjibiihaaaDoorCondBack2
section
/- Abstract values: one operation as a function of the state that 'simp' runs; its soundness. -/
namespace Go.Av
open Go
set_option linter.unusedVariables false
set_option linter.unusedSimpArgs false
set_option linter.unusedSectionVars false
variable [Globs]

def binF1 : Option Value → Res
  | some r => .ok True { v := .p (.v r) }
  | none => .bad
def binF2 (P : Program) (op : BinOp) (t id : Nat) (b : Bool) : AObj → Res
  | .row ty c => .ok (∃ el, ptOf P t = some el) { v := .p (.v (.bool b)), touch := [(id, .row ty c)] }
  | _ => .bad
/-- Two persistent trees, compared: arrays of numbers, and what else a fact says. -/
def treeF (P : Program) (op : BinOp) (t : TypeId) (x y : Operand) (X Y : PV) : Res := .any fun e => ∃ r, BinRun P op t x y X Y r ∧ e = { v := .p (.v r) }
def isSlice : Option TypeDesc → Prop
  | some (.slice _) => True
  | _ => False
/-- A slice compared with nil: of an empty one it is not known. -/
def nilCmp (P : Program) (op : BinOp) (t : TypeId) (es : List PV) : Res :=
  match op, es with
  | .eql, [] => .both (isSlice (P.underlying t))
  | _, _ => .bad
def binF (P : Program) (H : List (Nat × AObj)) (op : BinOp) (t : TypeId) (x y : Operand) : AV → AV → Res
  | .p (.sl _ []), .p (.v (.slice none 0 0)) => nilCmp P op t []
  | .p (.v a), .p (.v b) => binF1 (valF P op t (isConst x || isConst y) a b)
  | .p X, .p Y => treeF P op t x y X Y
  | .ptr id path, .p (.v (.pointer none)) => match op with
    | .eql => binF2 P op t id false (lkH H id)
    | .neq => binF2 P op t id true (lkH H id)
    | _ => .bad
  | _, _ => .bad

def unF1 : UnOp → Value → Option Value
  | .not, .bool b => some (.bool !b)
  | .neg, .int k n => some (.int k (k.wrap (0 - n)))
  | .xor, .int k n => some (.int k (k.wrap (BitVec.ofInt k.bits (if k.signed then -1 else k.max) ^^^ BitVec.ofInt k.bits n).toNat))
  | _, _ => none
def unF2 : Option Value → Res
  | some r => .ok True { v := .p (.v r) }
  | none => .bad
def unF (op : UnOp) : AV → Res
  | .p (.v x) => unF2 (unF1 op x)
  | _ => .bad
theorem unF1_run {op : UnOp} {x r : Value} (h : unF1 op x = some r) : UnRun op x r := by
  unfold unF1 at h
  split at h
  · injection h with h; subst h; exact ⟨rfl, fun P w => rfl⟩
  · injection h with h; subst h; exact ⟨rfl, fun P w => rfl⟩
  · injection h with h; subst h; exact ⟨rfl, fun P w => rfl⟩
  · cases h

def convF1 (n : Int) : Option IntKind → Option IntKind → Res
  | some _, some k => .ok True { v := .p (.v (.int k (k.wrap n))) }
  | _, _ => .bad
/-- The bytes of a slice of bytes. -/
def u8s (l : List UInt8) : List PV := l.map fun b => PV.v (.int .u8 b.toNat)
def convF (P : Program) (src dst : TypeId) : AV → Res
  | .p (.v (.int _ n)) => convF1 n (ikOf P src) (ikOf P dst)
  | _ => .bad

def ifcF (P : Program) (t : TypeId) : AV → Res
  | .p (.v x) => .ok (isIfc P t = false) { v := .p (.v (.iface t x)) }
  | _ => .bad
def fnF (f : Fn) (first : Array Operand) (caps : List AV) : Res := .ok (first = #[] ∧ ∀ c ∈ caps, c.cellish = true ∧ c.isAgg = false) { v := .fn f caps }

def ldNz : Option (Bool × Nat) → Prop
  | some (_, n) => n ≠ 0
  | none => False
def ldSz (sz : Nat) : Option (Bool × Nat) → Prop
  | some (_, n) => n = sz
  | none => False
def fldF2 (P : Program) (f : Nat) (shs : List Shape) : Option (Nat × TypeId) → Prop
  | some (off, ft) => off = Shape.sizeL (shs.take f) ∧ ldNz (ldOf P ft)
  | none => False
def fldF1 (P : Program) (t f id : Nat) (path : List Nat) (ty : TypeId) (c : AV) : Option Shape → Res
  | some (.st shs) => .ok (fldF2 P f shs (fldOf P t f)) { v := .ptr id (path ++ [f]), touch := [(id, .row ty c)] }
  | _ => .bad
def fldF0 (P : Program) (t f id : Nat) (path : List Nat) : AObj → Res
  | .row ty c => fldF1 P t f id path ty c ((c.get? path).map AV.shape)
  | _ => .bad
def fldG1 (P : Program) (t f : Nat) (fs : List PV) : Option PV → Res
  | some g => .ok (fldF2 P f (PV.shapeL fs) (fldOf P t f)) { v := .pp g }
  | _ => .bad
def fldF (P : Program) (t f : Nat) (H : List (Nat × AObj)) : AV → Res
  | .ptr id path => fldF0 P t f id path (lkH H id)
  | .pp (.st fs) => fldG1 P t f fs fs[f]?
  | _ => .bad

def fieldF2 (P : Program) (f : Nat) (shs : List Shape) (ag : Bool) (sz : Nat) : Option (Nat × TypeId) → Prop
  | some (off, ft) => off = Shape.sizeL (shs.take f) ∧ ldOf P ft = some (ag, sz)
  | none => False
def fieldF1 (P : Program) (t f : Nat) (fs : List PV) : Option PV → Res
  | some g => .ok (fieldF2 P f (PV.shapeL fs) (AV.p g).isAgg g.size (fldOf P t f)) { v := .p g }
  | _ => .bad
def fieldF0 (P : Program) (t f : Nat) (fs : List AV) : Option AV → Res
  | some g => .ok (g.cellish = true ∧ fieldF2 P f (AV.shapeL fs) g.isAgg g.size (fldOf P t f)) { v := g }
  | _ => .bad
def fieldF (P : Program) (t f : Nat) : AV → Res
  | .p (.st fs) => fieldF1 P t f fs fs[f]?
  | .st fs => fieldF0 P t f fs fs[f]?
  | _ => .bad

/-- The element type is one that has so many cells. -/
def elSz (P : Program) (sz : Nat) : Option TypeId → Prop
  | some el => ldSz sz (ldOf P el)
  | none => False
def arL2 (len : Nat) : Option (Bool × Nat) → Option (Nat × Nat)
  | some (_, sz) => some (len, sz)
  | none => none
/-- An array type's length, and how many cells an element has. -/
def arL (P : Program) : Option (Nat × TypeId) → Option (Nat × Nat)
  | some (len, el) => arL2 len (ldOf P el)
  | none => none
def iadF2 (P : Program) (t id : Nat) (path : List Nat) (i : Nat) (ty : TypeId) (c : AV) : Option AV → Option (Nat × Nat) → Res
  | some c', some (len, sz) => .ok (c'.shape.uni sz ∧ i < c'.cnt ∧ i < len) { v := .ptr id (path ++ [i]), touch := [(id, .row ty c)] }
  | _, _ => .bad
def iadF1 (P : Program) (t id : Nat) (path : List Nat) (i : Nat) : AObj → Res
  | .row ty c => iadF2 P t id path i ty c (c.get? path) (arL P (arOf P t))
  | _ => .bad
def iadO2 (P : Program) (t id : Nat) (path : List Nat) (sz len i : Nat) (ty : TypeId) (c : AV) : Option AV → Res
  | some c' => .ok (c'.shape.uni sz ∧ i < c'.cnt ∧ i < len ∧ elSz P sz (elOf P t)) { v := .ptr id (path ++ [i]), touch := [(id, .row ty c)] }
  | none => .bad
def iadO1 (P : Program) (t id : Nat) (path : List Nat) (sz len i : Nat) : AObj → Res
  | .row ty c => iadO2 P t id path sz len i ty c (c.get? path)
  | _ => .bad
def iadP (P : Program) (t : TypeId) (i : Nat) (y : PV) : Option PV → Option (Nat × Nat) → Res
  | some g, some (len, sz) => .ok (y.shape.uni sz ∧ i < len) { v := .pp g }
  | _, _ => .bad
def iadF (P : Program) (t : TypeId) (H : List (Nat × AObj)) : AV → AV → Res
  | .p (.sl sz es), .p (.v (.int _ n)) => .ok (0 ≤ n ∧ n.toNat < es.length ∧ elSz P sz (elOf P t)) { v := .pp (ix es n.toNat) }
  | .slt _ sz es, .p (.v (.int _ n)) => .ok (0 ≤ n ∧ n.toNat < es.length ∧ elSz P sz (elOf P t)) { v := .pp (ix es n.toNat) }
  | .osl id path sz len, .p (.v (.int _ n)) => if 0 ≤ n then iadO1 P t id path sz len n.toNat (lkH H id) else .bad
  | .ptr id path, .p (.v (.int _ n)) => if 0 ≤ n then iadF1 P t id path n.toNat (lkH H id) else .bad
  | .pp y, .p (.v (.int _ n)) => if 0 ≤ n then iadP P t n.toNat y (y.get? [n.toNat]) (arL P (arOf P t)) else .bad
  | _, _ => .bad

def idxF1 (P : Program) (n : Nat) : Option (Nat × TypeId) → Prop
  | some (len, el) => len = n ∧ ldOf P el = some (false, 1)
  | none => False
def idxF (P : Program) (t : TypeId) : AV → AV → Res
  | .p (.ints k len l), .p (.v (.int _ n)) => .ok (0 ≤ n ∧ n.toNat < l.length ∧ idxF1 P len (arOf P t)) { v := .p (.v (.int k (ix l n.toNat))) }
  | .p (.v (.string s)), .p (.v (.int _ n)) => .ok (0 ≤ n ∧ n.toNat < s.data.toList.length ∧ isStr P t = true) { v := .p (.v (.int .u8 (ix s.data.toList n.toNat).toNat)) }
  | _, _ => .bad

def extF1 : Option AV → Res
  | some a => .ok True { v := a }
  | none => .bad
def extF (i : Nat) : AV → Res
  | .tup vs => extF1 vs[i]?
  | _ => .bad

/-- A bound of a slice: what must hold of it, and the number. -/
def bndF (dflt : Nat) : Option AV → Option Nat
  | none => some dflt
  | some (.p (.v (.int _ i))) => if 0 ≤ i then some i.toNat else none
  | _ => none
def slcF2 (P : Program) (t sz : Nat) (es : List PV) : Option Nat → Option Nat → Res
  | some a, some b => .ok (a ≤ b ∧ b ≤ es.length ∧ elSz P sz (elOf P t)) { v := .p (.sl sz ((es.take b).drop a)) }
  | _, _ => .bad
def elNz (P : Program) : Option TypeId → Prop
  | some el => (ldOf P el).isSome = true
  | none => False
def slcN2 (P : Program) (t : Nat) : Option Nat → Option Nat → Res
  | some 0, some 0 => .ok (elNz P (elOf P t)) { v := .p (.v (.slice none 0 0)) }
  | _, _ => .bad
def slcA2 (P : Program) (t id : Nat) (path : List Nat) (ty : TypeId) (c : AV) : Option AV → Option (Nat × Nat) → Res
  | some c', some (len, sz) => .ok (c'.shape.uni sz ∧ Shape.cnt path c.shape ≤ len) { v := .osl id path sz len, touch := [(id, .row ty c)] }
  | _, _ => .bad
def slcA1 (P : Program) (t id : Nat) (path : List Nat) : AObj → Res
  | .row ty c => slcA2 P t id path ty c (c.get? path) (arL P (arOf P t))
  | _ => .bad
def slcF (P : Program) (t : TypeId) (H : List (Nat × AObj)) (dst : Option Tmp) : AV → Option AV → Option AV → Option AV → Res
  | .ptr id path, none, none, none => slcA1 P t id path (lkH H id)
  | .p (.sl sz es), lo, hi, none => slcF2 P t sz es (bndF 0 lo) (bndF es.length hi)
  | .slt _ sz es, lo, hi, none => slcF2 P t sz es (bndF 0 lo) (bndF es.length hi)
  | .p (.v (.slice none 0 0)), lo, hi, none => slcN2 P t (bndF 0 lo) (bndF 0 hi)
  | _, _, _, _ => .bad

def setAllF1 (x : AV) (go : AV → Option (Prop × AV)) : Option AV → Option AV → Option (Prop × AV)
  | some old, some c1 => (go c1).map fun q => ((x.shape = old.shape ∧ x.cellish = true) ∧ q.1, q.2)
  | _, _ => none
def setAllF : List (Nat × AV) → AV → Prop → Option (Prop × AV)
  | [], c, q => some (q, c)
  | (i, x) :: r, c, q => match c.get? [i], c.set? [i] x with
    | some old, some c1 => setAllF r c1 (q ∧ x.shape = old.shape ∧ x.cellish = true)
    | _, _ => none
def bldF2 (P : Program) (t : TypeId) : Option (Prop × AV) → Res
  | some (q, c) => .ok (q ∧ zeroChk P t ∧ bldB P t = true ∧ c.isAgg = true) { v := c }
  | none => .bad
def bldF (P : Program) (t : TypeId) (parts : List (Nat × AV)) : Option PV → Res
  | some z => bldF2 P t (setAllF parts (.p z) True)
  | none => .bad

def pviews : List (Nat × AV) → Option (List (Nat × PV))
  | [] => some []
  | (i, a) :: r => match a.pview, pviews r with
    | some x, some xs => some ((i, x) :: xs)
    | _, _ => none
def bslF3 (P : Program) (el sz len : Nat) (z : PV) : Option (Prop × AV) → Res
  | some (q, .p (.st es)) => .ok (q ∧ zeroChk P el ∧ z.size = sz ∧ 0 < sz ∧ len * sz ≤ 16777216) { v := .p (.sl sz es) }
  | _ => .bad
def bslF2 (P : Program) (el len : Nat) : Option (Bool × Nat) → Option PV → Option (List (Nat × PV)) → Res
  | some (_, sz), some z, some ps => bslF3 P el sz len z (setAllF (ps.map fun p => (p.1, .p p.2)) (.p (.st (List.replicate len z))) True)
  | _, _, _ => .bad
def bslE : Option (Bool × Nat) → Prop
  | some _ => True
  | none => False
def bslF (P : Program) (len : Nat) (parts : List (Nat × AV)) : Option TypeId → Res
  | some el => match len, parts with
    | 0, [] => .each (bslE (ldOf P el))
    | len, parts => bslF2 P el len (ldOf P el) (zeroPV P el) (pviews parts)
  | none => .bad

def lenF1 (n : Nat) : Option TypeId → Res
  | some _ => .ok True { v := .p (.v (.int .i64 n)) }
  | none => .bad
def lenO1 (P : Program) (t n id : Nat) : AObj → Res
  | .row ty c => .ok (∃ el, elOf P t = some el) { v := .p (.v (.int .i64 n)), touch := [(id, .row ty c)] }
  | _ => .bad
def lenF (P : Program) (H : List (Nat × AObj)) (t : TypeId) : AV → Res
  | .p (.sl _ es) => lenF1 es.length (elOf P t)
  | .slt _ _ es => lenF1 es.length (elOf P t)
  | .p (.v (.slice none 0 0)) => lenF1 0 (elOf P t)
  | .p (.v (.string s)) => .ok (isStr P t = true) { v := .p (.v (.int .i64 s.size)) }
  | .osl id path k n => lenO1 P t n id (lkH H id)
  | _ => .bad

def srcF1 (k k' n id ty : Nat) (c : AV) : Option AV → Option (List PV × List (Nat × AObj) × Prop)
  | some c' => match c'.elems with
    | some xs => some (xs, [(id, .row ty c)], k' = k ∧ c'.shape.uni k ∧ xs.length = n)
    | none => none
  | none => none
def srcF0 (k k' n id : Nat) (path : List Nat) : AObj → Option (List PV × List (Nat × AObj) × Prop)
  | .row ty c => srcF1 k k' n id ty c (c.get? path)
  | _ => none
def srcF (H : List (Nat × AObj)) (k : Nat) : AV → Option (List PV × List (Nat × AObj) × Prop)
  | .p (.sl k' es) => some (es, [], k' = k)
  | .slt _ k' es => some (es, [], k' = k)
  | .p (.v (.slice none 0 0)) => some ([], [], True)
  | .osl id path k' n => srcF0 k k' n id path (lkH H id)
  | _ => none
def appF3 (dst : Option Tmp) (k by' : Nat) (xs : List PV) (tc : List (Nat × AObj)) (q : Prop) : AV → Res
  | .p (.v (.slice _ 0 0)) => match dst with
    | some d => .ok (q ∧ d < 1000 ∧ xs.length * by' ≤ 140737488355328) ⟨.slt d k xs, tc, [(d, .tail xs.length)], [d]⟩
    | none => .bad
  | .slt tok k' es => .ok (q ∧ k' = k ∧ (es.length + xs.length) * by' ≤ 140737488355328) ⟨.slt tok k (es ++ xs), (tok, .tail es.length) :: tc, [(tok, .tail (es.length + xs.length))], []⟩
  | _ => .bad
/-- What is asked of the element type: its zero, its room. -/
def appT (P : Program) (el k : Nat) : Option PV → Option Nat → Option (Prop × Nat)
  | some z, some by' => some (z.size = k ∧ zeroChk P el ∧ 0 < k ∧ 0 < by', by')
  | _, _ => none
def appF2 (dst : Option Tmp) (s : AV) (k : Nat) : Option (List PV × List (Nat × AObj) × Prop) → Option (Prop × Nat) → Res
  | some (xs, tc, q), some (q', by') => appF3 dst k by' xs tc (q ∧ q') s
  | _, _ => .bad
def appF1 (P : Program) (H : List (Nat × AObj)) (dst : Option Tmp) (s x : AV) (el : TypeId) : Option (Bool × Nat) → Res
  | some (_, k) => appF2 dst s k (srcF H k x) (appT P el k (zeroPV P el) (bytesOf P el))
  | none => .bad
def appF (P : Program) (H : List (Nat × AObj)) (dst : Option Tmp) (s x : AV) : Option TypeId → Res
  | some el => appF1 P H dst s x el (ldOf P el)
  | none => .bad
/-- A slice that grows has its room: what the state says of it is asked for here. -/
def touchOk (H : List (Nat × AObj)) : List (Nat × AObj) → Prop
  | [] => True
  | p :: l => lkH H p.1 = p.2 ∧ touchOk H l

def minF : AV → AV → Res
  | .p (.v (.int k x)), .p (.v (.int k' y)) => .ok (k' = k) { v := .p (.v (.int k (if y < x then y else x))) }
  | _, _ => .bad
def maxF : AV → AV → Res
  | .p (.v (.int k x)), .p (.v (.int k' y)) => .ok (k' = k) { v := .p (.v (.int k (if y > x then y else x))) }
  | _, _ => .bad
/-- A call of a function: a contract is given for it. -/
def fnCall (P : Program) (f : AV) (args : List AV) : Res := .any fun e => match f with
  | .p (.v (.func (.func g) first captured)) => first = #[] ∧ captured = #[] ∧ callEff P g args e
  | .fn (.func g) caps => callEff P g (args ++ caps) e
  | _ => False
def callF (P : Program) (H : List (Nat × AObj)) (dst : Option Tmp) (ev : Operand → AV) (args : List AV) (ts : List TypeId) : Callee → Res
  | .builtin .len => match args, ts with
    | [a], [t] => lenF P H t a
    | _, _ => .bad
  | .builtin .append => match args, ts with
    | [s, x], [t, t'] => if t' = t then appF P H dst s x (elOf P t) else .bad
    | _, _ => .bad
  | .builtin .min => match args with
    | [a, b] => minF a b
    | _ => .bad
  | .builtin .max => match args with
    | [a, b] => maxF a b
    | _ => .bad
  | .value f => fnCall P (ev f) args
  | _ => .bad

def pickF (a b : AV) : AV → Res
  | .p (.v (.bool t)) => .ok True { v := if t then a else b }
  | _ => .bad
def allocF (P : Program) (t : TypeId) : Option Tmp → Option PV → Res
  | some d, some z => .ok (d < 1000 ∧ zeroChk P t) ⟨.ptr d [], [], [(d, .row t (.p z))], [d]⟩
  | _, _ => .bad
def boxF (t : TypeId) (x : AV) : Option Tmp → Res
  | some d => .ok (d < 1000 ∧ x.cellish = true ∧ d ∉ x.refs) ⟨.ptr d [], [], [(d, .row t x)], [d]⟩
  | none => .bad

def opB (P : Program) (H : List (Nat × AObj)) (dst : Option Tmp) (ev : Operand → AV) : Op → Res
  | .move x => .ok True { v := ev x }
  | .assign x => .ok True { v := ev x }
  | .pick c a b => pickF (ev a) (ev b) (ev c)
  | .alloc t => allocF P t dst (zeroPV P t)
  | .box t x => boxF t (ev x) dst
  | .load t x => loadF P t H (ev x)
  | .store t x y => storeF P t dst H (ev y) (ev x)
  | .nilCheck x => nilF H (ev x)
  | .binOp op t x y _ => binF P H op t x y (ev x) (ev y)
  | .unOp op _ x => unF op (ev x)
  | .convert src dst x => convF P src dst (ev x)
  | .makeInterface t x => ifcF P t (ev x)
  | .makeFunc f first caps => fnF f first (caps.toList.map ev)
  | .fieldAddr t x f => fldF P t f H (ev x)
  | .field t x f => fieldF P t f (ev x)
  | .indexAddr t x i => iadF P t H (ev x) (ev i)
  | .index t x i => idxF P t (ev x) (ev i)
  | .extract x i => extF i (ev x)
  | .slice t x lo hi mx => slcF P t H dst (ev x) (lo.map ev) (hi.map ev) (mx.map ev)
  | .build t parts => bldF P t (parts.toList.map fun p => (p.1, ev p.2)) (zeroPV P t)
  | .buildSlice t len parts => bslF P len (parts.toList.map fun p => (p.1, ev p.2)) (elOf P t)
  | .call c => callF P H dst ev (c.args.toList.map ev) c.argTypes.toList c.callee
  | _ => .bad

/-- Where no rule of the above serves: a law of the operation's own. -/
def custF (P : Program) (dst : Option Tmp) (op : Op) (ev : Operand → AV) : Res := .any fun e => Cust P dst op ev e
def orC : Res → Res → Res
  | .bad, c => c
  | r, _ => r
def opF (P : Program) (H : List (Nat × AObj)) (dst : Option Tmp) (ev : Operand → AV) (op : Op) : Res := orC (opB P H dst ev op) (custF P dst op ev)
theorem orC_ok {side : Prop} {e : Eff} {c : Res} : orC (.ok side e) c = .ok side e := rfl
theorem orC_any {q : Eff → Prop} {c : Res} : orC (.any q) c = .any q := rfl
theorem orC_both {side : Prop} {c : Res} : orC (.both side) c = .both side := rfl
theorem orC_each {side : Prop} {c : Res} : orC (.each side) c = .each side := rfl
theorem orC_bad {c : Res} : orC .bad c = c := rfl
theorem orC_call {P : Program} {f : AV} {args : List AV} {c : Res} : orC (fnCall P f args) c = fnCall P f args := rfl
theorem orC_tree {P : Program} {op : BinOp} {t : TypeId} {x y : Operand} {X Y : PV} {c : Res} : orC (treeF P op t x y X Y) c = treeF P op t x y X Y := rfl
end Go.Av
end

section
/- Abstract values: the functions of AvV say what AvG's effects say. -/
namespace Go.Av
open Go
set_option linter.unusedVariables false
set_option linter.unusedSimpArgs false
set_option linter.unusedSectionVars false
variable [Globs]

section
variable {P : Program} {o : Oper} {ev : Operand → AV} {H : List (Nat × AObj)} {side : Prop} {e : Eff}

theorem loadF_sound {t : TypeId} {x : Operand} (ho : o.op = .load t x) (h : loadF P t H (ev x) = .ok side e) (hs : side) : aEff P o ev e := by
  simp only [aEff, ho]
  unfold loadF at h
  split at h
  · rename_i id path hx
    rw [hx]
    unfold loadF1 at h
    split at h
    · unfold loadF2 at h
      split at h
      · rename_i hg
        injection h with h1 h2; subst h1; subst h2
        exact ⟨_, _, _, hg, hs.1, hs.2, rfl⟩
      · cases h
    · cases h
  · rename_i y hx
    rw [hx]
    injection h with h1 h2; subst h1; subst h2
    exact ⟨hs, rfl⟩
  · cases h

theorem storeF_sound {t : TypeId} {x y : Operand} (ho : o.op = .store t x y) (h : storeF P t o.dst H (ev y) (ev x) = .ok side e) (hs : side) : aEff P o ev e := by
  simp only [aEff, ho]
  unfold storeF at h
  split at h
  · rename_i id path hx
    rw [hx]
    unfold storeF1 at h
    split at h
    · unfold storeF2 at h
      split at h
      · rename_i h1 h2
        injection h with h3 h4; subst h3; subst h4
        obtain ⟨g1, g2, g3, g4⟩ := hs
        obtain ⟨ag, g5⟩ : ∃ ag, ldOf P t = some (ag, (ev y).size) := by
          cases hl : ldOf P t with
          | none => rw [hl] at g4; cases g4
          | some q => rw [hl] at g4; simp at g4; exact ⟨q.1, by rw [← g4]⟩
        exact ⟨_, _, _, _, ag, g1, h1, g2, g3, h2, g5, rfl⟩
      · cases h
    · cases h
  · cases h

theorem nilF_sound {x : Operand} (ho : o.op = .nilCheck x) (h : nilF H (ev x) = .ok side e) (hs : side) : aEff P o ev e := by
  simp only [aEff, ho]
  unfold nilF at h
  split at h
  · rename_i id path hx
    rw [hx]
    unfold nilF1 at h
    split at h
    · injection h with h1 h2; subst h2; exact ⟨_, _, rfl⟩
    · cases h
  · rename_i y hx
    rw [hx]
    injection h with h1 h2; subst h2; rfl
  · cases h

theorem binF_sound {op : BinOp} {t ty : TypeId} {x y : Operand} (ho : o.op = .binOp op t x y ty) (h : binF P H op t x y (ev x) (ev y) = .ok side e) (hs : side) : aEff P o ev e := by
  simp only [aEff, ho]
  unfold binF at h
  split at h
  · unfold nilCmp at h
    split at h <;> cases h
  · rename_i a b hx hy
    rw [hx, hy]
    unfold binF1 at h
    split at h
    · rename_i hv
      injection h with h1 h2; subst h2
      exact ⟨_, binRun_of hv, rfl⟩
    · cases h
  · rename_i hx hy
    simp [treeF] at h
  · rename_i id path hx hy
    rw [hx, hy]
    split at h
    · unfold binF2 at h
      split at h
      · injection h with h1 h2; subst h1; subst h2
        obtain ⟨el, h⟩ := hs
        exact ⟨_, _, el, h, .inl ⟨rfl, rfl⟩⟩
      · cases h
    · unfold binF2 at h
      split at h
      · injection h with h1 h2; subst h1; subst h2
        obtain ⟨el, h⟩ := hs
        exact ⟨_, _, el, h, .inr ⟨rfl, rfl⟩⟩
      · cases h
    · cases h
  · cases h

theorem unF_sound {op : UnOp} {t : TypeId} {x : Operand} (ho : o.op = .unOp op t x) (h : unF op (ev x) = .ok side e) (hs : side) : aEff P o ev e := by
  simp only [aEff, ho]
  unfold unF at h
  split at h
  · rename_i vx hx
    unfold unF2 at h
    split at h
    · rename_i hv
      injection h with h1 h2; subst h2
      exact ⟨_, _, hx, unF1_run hv, rfl⟩
    · cases h
  · cases h

theorem convF_sound {src dst : TypeId} {x : Operand} (ho : o.op = .convert src dst x) (h : convF P src dst (ev x) = .ok side e) (hs : side) : aEff P o ev e := by
  simp only [aEff, ho]
  unfold convF at h
  split at h
  · rename_i k n hx
    rw [hx]
    unfold convF1 at h
    split at h
    · rename_i h1 h2
      injection h with h3 h4; subst h4
      exact ⟨_, _, h1, h2, rfl⟩
    · cases h
  · cases h

theorem fldF2_spec {f : Nat} {shs : List Shape} {x : Option (Nat × TypeId)} (h : fldF2 P f shs x) : ∃ off ft ag n, x = some (off, ft) ∧ ldOf P ft = some (ag, n) ∧ n ≠ 0 ∧ off = Shape.sizeL (shs.take f) := by
  unfold fldF2 at h
  split at h
  · obtain ⟨h1, h2⟩ := h
    unfold ldNz at h2
    split at h2
    · rename_i hl
      exact ⟨_, _, _, _, rfl, hl, h2, h1⟩
    · exact h2.elim
  · exact h.elim
theorem fieldF2_spec {f : Nat} {shs : List Shape} {ag : Bool} {sz : Nat} {x : Option (Nat × TypeId)} (h : fieldF2 P f shs ag sz x) : ∃ off ft, x = some (off, ft) ∧ ldOf P ft = some (ag, sz) ∧ off = Shape.sizeL (shs.take f) := by
  unfold fieldF2 at h
  split at h
  · exact ⟨_, _, rfl, h.2, h.1⟩
  · exact h.elim
theorem sizeL_shapes (fs : List PV) (f : Nat) : Shape.sizeL ((PV.shapeL fs).take f) = PV.sizeL (fs.take f) := by
  rw [← PV.sizeL_shape, PV.shapeL_map, PV.shapeL_map, List.map_take]
theorem sizeL_shapesA (fs : List AV) (f : Nat) : Shape.sizeL ((AV.shapeL fs).take f) = AV.sizeL (fs.take f) := by
  rw [← AV.sizeL_shape, AV.shapeL_map, AV.shapeL_map, List.map_take]

theorem fldF_sound {t : TypeId} {f : Nat} {x : Operand} (ho : o.op = .fieldAddr t x f) (h : fldF P t f H (ev x) = .ok side e) (hs : side) : aEff P o ev e := by
  simp only [aEff, ho]
  unfold fldF at h
  split at h
  · rename_i id path hx
    rw [hx]
    unfold fldF0 at h
    split at h
    · unfold fldF1 at h
      split at h
      · rename_i hg
        injection h with h1 h2; subst h1; subst h2
        rw [Option.map_eq_some_iff] at hg
        obtain ⟨c', hg, hsh⟩ := hg
        obtain ⟨off, ft, ag, n, k1, k2, k3, k4⟩ := fldF2_spec hs
        exact ⟨_, _, c', _, off, ft, ag, n, hg, hsh, k1, k2, k3, k4, rfl⟩
      · cases h
    · cases h
  · rename_i fs hx
    rw [hx]
    unfold fldG1 at h
    split at h
    · rename_i hg
      injection h with h1 h2; subst h1; subst h2
      obtain ⟨off, ft, ag, n, k1, k2, k3, k4⟩ := fldF2_spec hs
      exact ⟨_, off, ft, ag, n, hg, k1, k2, k3, by rw [k4, sizeL_shapes], rfl⟩
    · cases h
  · cases h

theorem fieldF_sound {t : TypeId} {f : Nat} {x : Operand} (ho : o.op = .field t x f) (h : fieldF P t f (ev x) = .ok side e) (hs : side) : aEff P o ev e := by
  simp only [aEff, ho]
  unfold fieldF at h
  split at h
  · rename_i fs hx
    rw [hx]
    unfold fieldF1 at h
    split at h
    · rename_i hg
      injection h with h1 h2; subst h1; subst h2
      obtain ⟨off, ft, k1, k2, k3⟩ := fieldF2_spec hs
      exact ⟨_, off, ft, hg, k1, k2, by rw [k3, sizeL_shapes], rfl⟩
    · cases h
  · rename_i fs hx
    rw [hx]
    unfold fieldF0 at h
    split at h
    · rename_i hg
      injection h with h1 h2; subst h1; subst h2
      obtain ⟨off, ft, k1, k2, k3⟩ := fieldF2_spec hs.2
      exact ⟨_, off, ft, hg, hs.1, k1, k2, by rw [k3, sizeL_shapesA], rfl⟩
    · cases h
  · cases h

theorem elSz_spec {sz : Nat} {x : Option TypeId} (h : elSz P sz x) : ∃ el ag, x = some el ∧ ldOf P el = some (ag, sz) := by
  unfold elSz at h
  split at h
  · unfold ldSz at h
    split at h
    · rename_i hl
      subst h
      exact ⟨_, _, rfl, hl⟩
    · exact h.elim
  · exact h.elim
theorem arL_spec {x : Option (Nat × TypeId)} {len sz : Nat} (h : arL P x = some (len, sz)) : ∃ el ag, x = some (len, el) ∧ ldOf P el = some (ag, sz) := by
  unfold arL at h
  split at h
  · unfold arL2 at h
    split at h
    · rename_i hl
      injection h with h; injection h with h1 h2; subst h1; subst h2
      exact ⟨_, _, rfl, hl⟩
    · cases h
  · cases h

theorem iadF_sound {t : TypeId} {x i : Operand} (ho : o.op = .indexAddr t x i) (h : iadF P t H (ev x) (ev i) = .ok side e) (hs : side) : aEff P o ev e := by
  simp only [aEff, ho]
  unfold iadF at h
  split at h
  · rename_i sz es k n hx hi
    injection h with h1 h2; subst h1; subst h2
    obtain ⟨el, ag, g1, g2⟩ := elSz_spec hs.2.2
    exact ⟨k, n, hi, hs.1, by rw [hx]; exact ⟨el, ag, _, g1, g2, ix_some hs.2.1, rfl⟩⟩
  · rename_i tok sz es k n hx hi
    injection h with h1 h2; subst h1; subst h2
    obtain ⟨el, ag, g1, g2⟩ := elSz_spec hs.2.2
    exact ⟨k, n, hi, hs.1, by rw [hx]; exact ⟨el, ag, _, g1, g2, ix_some hs.2.1, rfl⟩⟩
  · rename_i id path sz len k n hx hi
    split at h
    · rename_i hn
      refine ⟨k, n, hi, hn, ?_⟩
      rw [hx]
      unfold iadO1 at h
      split at h
      · unfold iadO2 at h
        split at h
        · rename_i hg
          injection h with h1 h2; subst h1; subst h2
          obtain ⟨el, ag, g1, g2⟩ := elSz_spec hs.2.2.2
          exact ⟨_, _, _, el, ag, hg, hs.1, hs.2.1, g1, g2, hs.2.2.1, rfl⟩
        · cases h
      · cases h
    · cases h
  · rename_i id path k n hx hi
    split at h
    · rename_i hn
      refine ⟨k, n, hi, hn, ?_⟩
      rw [hx]
      unfold iadF1 at h
      split at h
      · unfold iadF2 at h
        split at h
        · rename_i hg ha
          injection h with h1 h2; subst h1; subst h2
          obtain ⟨g1, g2, g5⟩ := hs
          obtain ⟨el, ag, g4, g6⟩ := arL_spec ha
          exact ⟨_, _, _, el, ag, _, _, hg, g1, g2, g4, g6, g5, rfl⟩
        · cases h
      · cases h
    · cases h
  · rename_i y k n hx hi
    split at h
    · rename_i hn
      refine ⟨k, n, hi, hn, ?_⟩
      rw [hx]
      unfold iadP at h
      split at h
      · rename_i hg ha
        injection h with h1 h2; subst h1; subst h2
        obtain ⟨g1, g5⟩ := hs
        obtain ⟨el, ag, g4, g6⟩ := arL_spec ha
        exact ⟨_, el, ag, _, _, hg, g1, g4, g6, g5, rfl⟩
      · cases h
    · cases h
  · cases h

theorem idxF_sound {t : TypeId} {x i : Operand} (ho : o.op = .index t x i) (h : idxF P t (ev x) (ev i) = .ok side e) (hs : side) : aEff P o ev e := by
  simp only [aEff, ho]
  unfold idxF at h
  split at h
  · rename_i k len l k' n hx hi
    injection h with h1 h2; subst h1; subst h2
    obtain ⟨g1, g2, g3⟩ := hs
    unfold idxF1 at g3
    split at g3
    · rename_i len' el ha
      obtain ⟨rfl, g4⟩ := g3
      exact ⟨k', n, hi, g1, by rw [hx]; exact ⟨el, _, ha, g4, ix_some g2, rfl⟩⟩
    · exact g3.elim
  · rename_i s k' n hx hi
    injection h with h1 h2; subst h1; subst h2
    obtain ⟨g1, g2, g3⟩ := hs
    exact ⟨k', n, hi, g1, by rw [hx]; exact ⟨_, g3, ix_some g2, rfl⟩⟩
  · cases h

theorem extF_sound {x : Operand} {i : Nat} (ho : o.op = .extract x i) (h : extF i (ev x) = .ok side e) (hs : side) : aEff P o ev e := by
  simp only [aEff, ho]
  unfold extF at h
  split at h
  · rename_i vs hx
    rw [hx]
    unfold extF1 at h
    split at h
    · rename_i hg
      injection h with h1 h2; subst h2
      exact ⟨_, hg, rfl⟩
    · cases h
  · cases h

theorem bndF_spec {d n : Nat} {x : Option AV} (h : bndF d x = some n) : aEff.boundOf x d n := by
  unfold bndF at h
  split at h
  · injection h with h; subst h; rfl
  · split at h
    · rename_i hn
      injection h with h; subst h
      exact ⟨hn, rfl⟩
    · cases h
  · cases h


theorem slcF2_spec {t : TypeId} {sz : Nat} {es : List PV} {x y : Option Nat} (h : slcF2 P t sz es x y = .ok side e) (hs : side) :
    ∃ a b el ag, x = some a ∧ y = some b ∧ a ≤ b ∧ b ≤ es.length ∧ elOf P t = some el ∧ ldOf P el = some (ag, sz) ∧ e = { v := .p (.sl sz ((es.take b).drop a)) } := by
  unfold slcF2 at h
  split at h
  · injection h with h1 h2; subst h1; subst h2
    obtain ⟨el, ag, g1, g2⟩ := elSz_spec hs.2.2
    exact ⟨_, _, el, ag, rfl, rfl, hs.1, hs.2.1, g1, g2, rfl⟩
  · cases h

theorem slcF_sound {t : TypeId} {x : Operand} {lo hi mx : Option Operand} (ho : o.op = .slice t x lo hi mx) (h : slcF P t H o.dst (ev x) (lo.map ev) (hi.map ev) (mx.map ev) = .ok side e) (hs : side) : aEff P o ev e := by
  simp only [aEff, ho]
  unfold slcF at h
  split at h
  · rename_i id path hx h1 h2 h3
    rw [hx, h1, h2, h3]
    unfold slcA1 at h
    split at h
    · unfold slcA2 at h
      split at h
      · rename_i hg ha
        injection h with h4 h5; subst h4; subst h5
        obtain ⟨el, ag, g4, g6⟩ := arL_spec ha
        exact ⟨_, _, _, _, _, _, _, hg, hs.1, g4, g6, hs.2, rfl⟩
      · cases h
    · cases h
  · rename_i sz es hx h3
    rw [hx, h3]
    obtain ⟨a, b, el, ag, k1, k2, k3, k4, k5, k6, k7⟩ := slcF2_spec h hs
    generalize lo.map ev = l at k1 ⊢
    generalize hi.map ev = u at k2 ⊢
    exact ⟨el, ag, a, b, k5, k6, bndF_spec k1, bndF_spec k2, k3, k4, k7⟩
  · rename_i tok sz es hx h3
    rw [hx, h3]
    obtain ⟨a, b, el, ag, k1, k2, k3, k4, k5, k6, k7⟩ := slcF2_spec h hs
    generalize lo.map ev = l at k1 ⊢
    generalize hi.map ev = u at k2 ⊢
    exact ⟨el, ag, a, b, k5, k6, bndF_spec k1, bndF_spec k2, k3, k4, k7⟩
  · rename_i hx h3
    rw [hx, h3]
    unfold slcN2 at h
    split at h
    · rename_i k1 k2
      injection h with h4 h5; subst h4; subst h5
      obtain ⟨el, ag, sz, g1, g2⟩ : ∃ el ag sz, elOf P t = some el ∧ ldOf P el = some (ag, sz) := by
        unfold elNz at hs
        split at hs
        · rename_i el he
          cases hl : ldOf P el with
          | none => rw [hl] at hs; cases hs
          | some q => exact ⟨el, q.1, q.2, he, hl⟩
        · exact hs.elim
      generalize lo.map ev = l at k1 ⊢
      generalize hi.map ev = u at k2 ⊢
      exact ⟨el, ag, sz, g1, g2, bndF_spec k1, bndF_spec k2, rfl⟩
    · cases h
  · cases h

theorem setAllF_spec : ∀ {l : List (Nat × AV)} {c c' : AV} {q q' : Prop}, setAllF l c q = some (q', c') → q' → q ∧ setAll c l c'
  | [], c, c', q, q', h, hq => by
    simp only [setAllF] at h
    injection h with h
    injection h with h1 h2
    subst h1; subst h2
    exact ⟨hq, rfl⟩
  | (i, x) :: r, c, c', q, q', h, hq => by
    simp only [setAllF] at h
    split at h
    · rename_i h1 h2
      obtain ⟨⟨g1, g2, g3⟩, g4⟩ := setAllF_spec h hq
      exact ⟨g1, _, _, h1, g2, g3, h2, g4⟩
    · cases h

theorem bldF_sound {t : TypeId} {parts : Array (Nat × Operand)} (ho : o.op = .build t parts) (h : bldF P t (parts.toList.map fun p => (p.1, ev p.2)) (zeroPV P t) = .ok side e) (hs : side) : aEff P o ev e := by
  simp only [aEff, ho]
  unfold bldF at h
  split at h
  · rename_i z hz
    unfold bldF2 at h
    split at h
    · rename_i hg
      injection h with h1 h2; subst h1; subst h2
      obtain ⟨g1, g2, g3, g4⟩ := hs
      exact ⟨z, _, hz, g2, g3, (setAllF_spec hg g1).2, g4, rfl⟩
    · cases h
  · cases h

theorem pviews_spec : ∀ {l : List (Nat × AV)} {ps : List (Nat × PV)}, pviews l = some ps → l.map (fun p => (p.1, p.2.pview)) = ps.map fun p => (p.1, some p.2)
  | [], ps, h => by simp only [pviews] at h; injection h with h; subst h; rfl
  | (i, a) :: r, ps, h => by
    simp only [pviews] at h
    split at h
    · rename_i h1 h2
      injection h with h; subst h
      simp [h1, pviews_spec h2]
    · cases h

theorem bslF_sound {t : TypeId} {len : Nat} {parts : Array (Nat × Operand)} (ho : o.op = .buildSlice t len parts) (h : bslF P len (parts.toList.map fun p => (p.1, ev p.2)) (elOf P t) = .ok side e) (hs : side) : aEff P o ev e := by
  simp only [aEff, ho]
  unfold bslF at h
  split at h
  · rename_i el hel
    split at h
    · cases h
    unfold bslF2 at h
    split at h
    · rename_i hl hz hp
      unfold bslF3 at h
      split at h
      · rename_i hg
        injection h with h1 h2; subst h1; subst h2
        obtain ⟨g1, g2, g3, g4, g5⟩ := hs
        refine ⟨el, _, _, _, _, _, hel, hl, hz, g2, g3, g4, g5, ?_, (setAllF_spec hg g1).2, rfl⟩
        have := pviews_spec hp
        rw [List.map_map] at this
        exact this
      · cases h
    · cases h
  · cases h

theorem lenF_sound {c : Call} {t : TypeId} {a : AV} (ho : o.op = .call c) (hc : c.callee = .builtin .len) (ha : c.args.toList.map ev = [a]) (ht : c.argTypes.toList = [t]) (h : lenF P H t a = .ok side e) (hs : side) : aEff P o ev e := by
  simp only [aEff, ho, hc, ha, ht]
  unfold lenF at h
  split at h
  · unfold lenF1 at h
    split at h
    · rename_i he
      injection h with h1 h2; subst h2
      exact ⟨⟨_, he⟩, rfl⟩
    · cases h
  · unfold lenF1 at h
    split at h
    · rename_i he
      injection h with h1 h2; subst h2
      exact ⟨⟨_, he⟩, rfl⟩
    · cases h
  · unfold lenF1 at h
    split at h
    · rename_i he
      injection h with h1 h2; subst h2
      exact ⟨⟨_, he⟩, rfl⟩
    · cases h
  · injection h with h1 h2; subst h1; subst h2
    exact ⟨hs, rfl⟩
  · unfold lenO1 at h
    split at h
    · injection h with h1 h2; subst h1; subst h2
      exact ⟨_, _, hs, rfl⟩
    · cases h
  · cases h

theorem srcF_spec {k : Nat} {x : AV} {xs : List PV} {tc : List (Nat × AObj)} {q : Prop} (h : srcF H k x = some (xs, tc, q)) (hq : q) : srcOf x k xs tc := by
  unfold srcF at h
  split at h
  · injection h with h; injection h with h1 h; injection h with h2 h3; subst h1; subst h2; subst h3
    exact ⟨hq, rfl, rfl⟩
  · injection h with h; injection h with h1 h; injection h with h2 h3; subst h1; subst h2; subst h3
    exact ⟨hq, rfl, rfl⟩
  · injection h with h; injection h with h1 h; injection h with h2 h3; subst h1; subst h2; subst h3
    exact ⟨rfl, rfl⟩
  · unfold srcF0 at h
    split at h
    · unfold srcF1 at h
      split at h
      · rename_i hg
        split at h
        · rename_i he
          injection h with h; injection h with h1 h; injection h with h2 h3; subst h1; subst h2; subst h3
          exact ⟨_, _, _, hg, he, hq.1, hq.2.1, hq.2.2, rfl⟩
        · cases h
      · cases h
    · cases h
  · cases h

theorem appF_sound {c : Call} {t : TypeId} {a b : AV} (ho : o.op = .call c) (hc : c.callee = .builtin .append) (ha : c.args.toList.map ev = [a, b]) (ht : c.argTypes.toList = [t, t]) (h : appF P H o.dst a b (elOf P t) = .ok side e) (hs : side) : aEff P o ev e := by
  simp only [aEff, ho, hc, ha, ht]
  unfold appF at h
  split at h
  · rename_i el hel
    unfold appF1 at h
    split at h
    · rename_i ag k hl
      unfold appF2 at h
      split at h
      · rename_i xs tc q q' by' hsrc hT
        unfold appT at hT
        split at hT
        · rename_i z by2 hz hb
          injection hT with hT; injection hT with h1 h2; subst h1; subst h2
          unfold appF3 at h
          split at h
          · split at h
            · rename_i d hd
              injection h with h1 h2; subst h1; subst h2
              obtain ⟨⟨g1, g2, g3, g4, g5⟩, g6, g7⟩ := hs
              exact ⟨el, ag, k, _, xs, tc, trivial, hel, hl, ⟨z, hz, g2⟩, g3, g4, hb, g5, srcF_spec hsrc g1, d, hd, g6, g7, .inl rfl⟩
            · cases h
          · injection h with h1 h2; subst h1; subst h2
            obtain ⟨⟨g1, g2, g3, g4, g5⟩, g6, g7⟩ := hs
            exact ⟨el, ag, k, _, xs, tc, trivial, hel, hl, ⟨z, hz, g2⟩, g3, g4, hb, g5, srcF_spec hsrc g1, g6, g7, rfl⟩
          · cases h
        · cases hT
      · cases h
    · cases h
  · cases h

theorem treeF_any {op : BinOp} {t ty : TypeId} {x y : Operand} {q : Eff → Prop} (ho : o.op = .binOp op t x y ty) (h : binF P H op t x y (ev x) (ev y) = .any q) (hq : q e) : aEff P o ev e := by
  simp only [aEff, ho]
  unfold binF at h
  split at h
  · unfold nilCmp at h
    split at h <;> cases h
  · unfold binF1 at h
    split at h <;> cases h
  · rename_i X Y hx hy
    rw [hx, hy]
    unfold treeF at h
    injection h with h
    subst h
    exact hq
  · split at h
    · unfold binF2 at h
      split at h <;> cases h
    · unfold binF2 at h
      split at h <;> cases h
    · cases h
  · cases h
theorem call_any {c : Call} {q : Eff → Prop} (ho : o.op = .call c) (h : callF P H o.dst ev (c.args.toList.map ev) c.argTypes.toList c.callee = .any q) (hq : q e) : aEff P o ev e := by
  unfold callF at h
  split at h
  · split at h
    · unfold lenF at h
      split at h
      · unfold lenF1 at h; split at h <;> cases h
      · unfold lenF1 at h; split at h <;> cases h
      · unfold lenF1 at h; split at h <;> cases h
      · cases h
      · unfold lenO1 at h; split at h <;> cases h
      · cases h
    · cases h
  · split at h
    · split at h
      · unfold appF at h
        split at h
        · unfold appF1 at h
          split at h
          · unfold appF2 at h
            split at h
            · unfold appF3 at h
              split at h
              · split at h <;> cases h
              · cases h
              · cases h
            · cases h
          · cases h
        · cases h
      · cases h
    · cases h
  · split at h
    · unfold minF at h
      split at h <;> cases h
    · cases h
  · split at h
    · unfold maxF at h
      split at h <;> cases h
    · cases h
  · rename_i f hc
    unfold fnCall at h
    injection h with h
    subst h
    simp only [aEff, ho, hc]
    split at hq
    · rename_i hf
      rw [hf]
      exact hq
    · rename_i hf
      rw [hf]
      exact hq
    · exact hq.elim
  · cases h
theorem callF_sound {c : Call} (ho : o.op = .call c) (h : callF P H o.dst ev (c.args.toList.map ev) c.argTypes.toList c.callee = .ok side e) (hs : side) : aEff P o ev e := by
  unfold callF at h
  split at h
  · rename_i hc
    split at h
    · rename_i ha ht
      exact lenF_sound ho hc ha ht h hs
    · cases h
  · rename_i hc
    split at h
    · rename_i ha ht
      split at h
      · rename_i he
        subst he
        exact appF_sound ho hc ha ht h hs
      · cases h
    · cases h
  · rename_i hc
    split at h
    · rename_i ha
      unfold minF at h
      split at h
      · injection h with h1 h2; subst h1; subst h2
        simp only [aEff, ho, hc, ha]
        exact ⟨hs, trivial⟩
      · cases h
    · cases h
  · rename_i hc
    split at h
    · rename_i ha
      unfold maxF at h
      split at h
      · injection h with h1 h2; subst h1; subst h2
        simp only [aEff, ho, hc, ha]
        exact ⟨hs, trivial⟩
      · cases h
    · cases h
  · simp [fnCall] at h
  · cases h

theorem opB_sound (h : opB P H o.dst ev o.op = .ok side e) (hs : side) : aEff P o ev e := by
  cases ho : o.op with
  | move x => simp only [ho, opB] at h; injection h with h1 h2; subst h2; simp only [aEff, ho]
  | assign x => simp only [ho, opB] at h; injection h with h1 h2; subst h2; simp only [aEff, ho]
  | pick c a b =>
    simp only [ho, opB] at h
    unfold pickF at h
    split at h
    · rename_i t hc
      injection h with h1 h2; subst h2
      simp only [aEff, ho]
      exact ⟨t, hc, rfl⟩
    · cases h
  | alloc t =>
    simp only [ho, opB] at h
    unfold allocF at h
    split at h
    · rename_i d z hd hz
      injection h with h1 h2; subst h1; subst h2
      simp only [aEff, ho]
      exact ⟨d, z, hd, hs.1, hz, hs.2, rfl⟩
    · cases h
  | box t x =>
    simp only [ho, opB] at h
    unfold boxF at h
    split at h
    · rename_i d hd
      injection h with h1 h2; subst h1; subst h2
      simp only [aEff, ho]
      exact ⟨d, hd, hs.1, hs.2.1, hs.2.2, rfl⟩
    · cases h
  | load t x => simp only [ho, opB] at h; exact loadF_sound ho h hs
  | store t x y => simp only [ho, opB] at h; exact storeF_sound ho h hs
  | nilCheck x => simp only [ho, opB] at h; exact nilF_sound ho h hs
  | binOp op t x y ty => simp only [ho, opB] at h; exact binF_sound ho h hs
  | unOp op t x => simp only [ho, opB] at h; exact unF_sound ho h hs
  | convert s d x => simp only [ho, opB] at h; exact convF_sound ho h hs
  | makeInterface t x =>
    simp only [ho, opB] at h
    unfold ifcF at h
    split at h
    · rename_i y hx
      injection h with h1 h2; subst h1; subst h2
      simp only [aEff, ho]
      exact ⟨hs, _, hx, rfl⟩
    · cases h
  | makeFunc f first caps =>
    simp only [ho, opB, fnF] at h
    injection h with h1 h2; subst h1
    simp only [aEff, ho]
    refine ⟨hs.1, fun c hc => hs.2 _ (List.mem_map.2 ⟨c, hc, rfl⟩), h2.symm⟩
    -- => hs.2 _ (List.mem_map.2 ⟨c, hc, rfl⟩), rfl⟩
  | fieldAddr t x f => simp only [ho, opB] at h; exact fldF_sound ho h hs
  | field t x f => simp only [ho, opB] at h; exact fieldF_sound ho h hs
  | indexAddr t x i => simp only [ho, opB] at h; exact iadF_sound ho h hs
  | index t x i => simp only [ho, opB] at h; exact idxF_sound ho h hs
  | extract x i => simp only [ho, opB] at h; exact extF_sound ho h hs
  | slice t x lo hi mx => simp only [ho, opB] at h; exact slcF_sound ho h hs
  | build t parts => simp only [ho, opB] at h; exact bldF_sound ho h hs
  | buildSlice t len parts => simp only [ho, opB] at h; exact bslF_sound ho h hs
  | call c => simp only [ho, opB] at h; exact callF_sound ho h hs
  | _ => simp only [ho, opB] at h; cases h

def Res.plain : Res → Bool
  | .ok _ _ => true
  | .bad => true
  | _ => false
theorem opB_plain {op : Op} (h1 : ∀ b t x y ty, op ≠ .binOp b t x y ty) (h2 : ∀ c, op ≠ .call c) (h3 : ∀ t n ps, op ≠ .buildSlice t n ps) {d : Option Tmp} : (opB P H d ev op).plain = true := by
  cases op with
  | binOp b t x y ty => exact absurd rfl (h1 _ _ _ _ _)
  | call c => exact absurd rfl (h2 _)
  | buildSlice t n ps => exact absurd rfl (h3 _ _ _)
  | pick c a b => simp only [opB]; unfold pickF; split <;> rfl
  | alloc t => simp only [opB]; unfold allocF; split <;> rfl
  | box t x => simp only [opB]; unfold boxF; split <;> rfl
  | load t x =>
    simp only [opB]; unfold loadF
    split
    · unfold loadF1
      split
      · unfold loadF2; split <;> rfl
      · rfl
    · rfl
    · rfl
  | store t x y =>
    simp only [opB]; unfold storeF
    split
    · unfold storeF1
      split
      · unfold storeF2; split <;> rfl
      · rfl
    · rfl
  | nilCheck x =>
    simp only [opB]; unfold nilF
    split
    · unfold nilF1; split <;> rfl
    · rfl
    · rfl
  | unOp op t x =>
    simp only [opB]; unfold unF
    split
    · unfold unF2; split <;> rfl
    · rfl
  | convert s d x =>
    simp only [opB]; unfold convF
    split
    · unfold convF1; split <;> rfl
    · rfl
  | makeInterface t x => simp only [opB]; unfold ifcF; split <;> rfl
  | makeFunc f first caps => simp only [opB, fnF]; rfl
  | fieldAddr t x f =>
    simp only [opB]; unfold fldF
    split
    · unfold fldF0
      split
      · unfold fldF1; split <;> rfl
      · rfl
    · unfold fldG1; split <;> rfl
    · rfl
  | field t x f =>
    simp only [opB]; unfold fieldF
    split
    · unfold fieldF1; split <;> rfl
    · unfold fieldF0; split <;> rfl
    · rfl
  | indexAddr t x i =>
    simp only [opB]; unfold iadF
    split
    · rfl
    · rfl
    · split
      · unfold iadO1
        split
        · unfold iadO2; split <;> rfl
        · rfl
      · rfl
    · split
      · unfold iadF1
        split
        · unfold iadF2; split <;> rfl
        · rfl
      · rfl
    · split
      · unfold iadP; split <;> rfl
      · rfl
    · rfl
  | index t x i => simp only [opB]; unfold idxF; split <;> rfl
  | extract x i =>
    simp only [opB]; unfold extF
    split
    · unfold extF1; split <;> rfl
    · rfl
  | slice t x lo hi mx =>
    simp only [opB]; unfold slcF
    split
    · unfold slcA1
      split
      · unfold slcA2; split <;> rfl
      · rfl
    · unfold slcF2; split <;> rfl
    · unfold slcF2; split <;> rfl
    · unfold slcN2; split <;> rfl
    · rfl
  | build t parts =>
    simp only [opB]; unfold bldF
    split
    · unfold bldF2; split <;> rfl
    · rfl
  | _ => rfl
theorem callF_kind {c : Callee} {args : List AV} {ts : List TypeId} {d : Option Tmp} : (callF P H d ev args ts c).plain = true ∨ ∃ q, callF P H d ev args ts c = .any q := by
  unfold callF
  split
  · split
    · unfold lenF
      split
      · unfold lenF1; split <;> exact .inl rfl
      · unfold lenF1; split <;> exact .inl rfl
      · unfold lenF1; split <;> exact .inl rfl
      · exact .inl rfl
      · unfold lenO1; split <;> exact .inl rfl
      · exact .inl rfl
    · exact .inl rfl
  · split
    · split
      · unfold appF
        split
        · unfold appF1
          split
          · unfold appF2
            split
            · unfold appF3
              split
              · split <;> exact .inl rfl
              · exact .inl rfl
              · exact .inl rfl
            · exact .inl rfl
          · exact .inl rfl
        · exact .inl rfl
      · exact .inl rfl
    · exact .inl rfl
  · split
    · unfold minF
      split <;> exact .inl rfl
    · exact .inl rfl
  · split
    · unfold maxF
      split <;> exact .inl rfl
    · exact .inl rfl
  · exact .inr ⟨_, rfl⟩
  · exact .inl rfl
theorem bslF_kind {len : Nat} {parts : List (Nat × AV)} {x : Option TypeId} : (bslF P len parts x).plain = true ∨ (len = 0 ∧ parts = [] ∧ ∃ el, x = some el ∧ bslF P len parts x = .each (bslE (ldOf P el))) := by
  unfold bslF
  split
  · split
    · exact .inr ⟨rfl, rfl, _, rfl, rfl⟩
    · refine .inl ?_
      unfold bslF2
      split
      · unfold bslF3; split <;> rfl
      · rfl
  · exact .inl rfl
theorem binF_kind {op : BinOp} {t : TypeId} {x y : Operand} {a b : AV} : (binF P H op t x y a b).plain = true ∨ (∃ q, binF P H op t x y a b = .any q) ∨
    (op = .eql ∧ (∃ k, a = .p (.sl k [])) ∧ b = .p (.v (.slice none 0 0)) ∧ binF P H op t x y a b = .both (isSlice (P.underlying t))) := by
  unfold binF
  split
  · unfold nilCmp
    split
    · exact .inr (.inr ⟨rfl, ⟨_, rfl⟩, rfl, rfl⟩)
    · exact .inl rfl
  · unfold binF1; split <;> exact .inl rfl
  · exact .inr (.inl ⟨_, rfl⟩)
  · split
    · unfold binF2; split <;> exact .inl rfl
    · unfold binF2; split <;> exact .inl rfl
    · exact .inl rfl
  · exact .inl rfl

theorem opB_any {q : Eff → Prop} (h : opB P H o.dst ev o.op = .any q) (hq : q e) : aEff P o ev e := by
  by_cases h1 : ∃ b t x y ty, o.op = .binOp b t x y ty
  · obtain ⟨b, t, x, y, ty, ho⟩ := h1
    simp only [ho, opB] at h
    exact treeF_any ho h hq
  by_cases h2 : ∃ c, o.op = .call c
  · obtain ⟨c, ho⟩ := h2
    simp only [ho, opB] at h
    exact call_any ho h hq
  by_cases h3 : ∃ t n ps, o.op = .buildSlice t n ps
  · obtain ⟨t, n, ps, ho⟩ := h3
    simp only [ho, opB] at h
    rcases bslF_kind (P := P) (len := n) (parts := ps.toList.map fun p => (p.1, ev p.2)) (x := elOf P t) with g | ⟨_, _, el, _, g⟩
    · rw [h] at g; cases g
    · rw [h] at g; cases g
  have := opB_plain (P := P) (H := H) (ev := ev) (d := o.dst) (op := o.op) (fun b t x y ty e => h1 ⟨b, t, x, y, ty, e⟩) (fun c e => h2 ⟨c, e⟩) (fun t n ps e => h3 ⟨t, n, ps, e⟩)
  rw [h] at this
  cases this

theorem opB_both (h : opB P H o.dst ev o.op = .both side) (hs : side) : ∃ t x y ty k el, o.op = .binOp .eql t x y ty ∧ ev x = .p (.sl k []) ∧ ev y = .p (.v (.slice none 0 0)) ∧ P.underlying t = some (.slice el) := by
  by_cases h1 : ∃ b t x y ty, o.op = .binOp b t x y ty
  · obtain ⟨b, t, x, y, ty, ho⟩ := h1
    simp only [ho, opB] at h
    rcases binF_kind (P := P) (H := H) (op := b) (t := t) (x := x) (y := y) (a := ev x) (b := ev y) with g | ⟨q, g⟩ | ⟨rfl, ⟨k, g1⟩, g2, g3⟩
    · rw [h] at g; cases g
    · rw [h] at g; cases g
    · rw [h] at g3
      injection g3 with g3
      subst g3
      unfold isSlice at hs
      split at hs
      · rename_i hu
        exact ⟨t, x, y, ty, k, _, ho, g1, g2, hu⟩
      · exact hs.elim
  by_cases h2 : ∃ c, o.op = .call c
  · obtain ⟨c, ho⟩ := h2
    simp only [ho, opB] at h
    rcases callF_kind (P := P) (H := H) (ev := ev) (c := c.callee) (args := c.args.toList.map ev) (ts := c.argTypes.toList) (d := o.dst) with g | ⟨q, g⟩
    · rw [h] at g; cases g
    · rw [h] at g; cases g
  by_cases h3 : ∃ t n ps, o.op = .buildSlice t n ps
  · obtain ⟨t, n, ps, ho⟩ := h3
    simp only [ho, opB] at h
    rcases bslF_kind (P := P) (len := n) (parts := ps.toList.map fun p => (p.1, ev p.2)) (x := elOf P t) with g | ⟨_, _, el, _, g⟩
    · rw [h] at g; cases g
    · rw [h] at g; cases g
  have := opB_plain (P := P) (H := H) (ev := ev) (d := o.dst) (op := o.op) (fun b t x y ty e => h1 ⟨b, t, x, y, ty, e⟩) (fun c e => h2 ⟨c, e⟩) (fun t n ps e => h3 ⟨t, n, ps, e⟩)
  rw [h] at this
  cases this

theorem opB_each (h : opB P H o.dst ev o.op = .each side) (hs : side) : ∃ t el sz ag, o.op = .buildSlice t 0 #[] ∧ elOf P t = some el ∧ ldOf P el = some (ag, sz) := by
  by_cases h1 : ∃ b t x y ty, o.op = .binOp b t x y ty
  · obtain ⟨b, t, x, y, ty, ho⟩ := h1
    simp only [ho, opB] at h
    rcases binF_kind (P := P) (H := H) (op := b) (t := t) (x := x) (y := y) (a := ev x) (b := ev y) with g | ⟨q, g⟩ | ⟨rfl, ⟨k, g1⟩, g2, g3⟩
    · rw [h] at g; cases g
    · rw [h] at g; cases g
    · rw [h] at g3; cases g3
  by_cases h2 : ∃ c, o.op = .call c
  · obtain ⟨c, ho⟩ := h2
    simp only [ho, opB] at h
    rcases callF_kind (P := P) (H := H) (ev := ev) (c := c.callee) (args := c.args.toList.map ev) (ts := c.argTypes.toList) (d := o.dst) with g | ⟨q, g⟩
    · rw [h] at g; cases g
    · rw [h] at g; cases g
  by_cases h3 : ∃ t n ps, o.op = .buildSlice t n ps
  · obtain ⟨t, n, ps, ho⟩ := h3
    simp only [ho, opB] at h
    rcases bslF_kind (P := P) (len := n) (parts := ps.toList.map fun p => (p.1, ev p.2)) (x := elOf P t) with g | ⟨g1, g2, el, g3, g⟩
    · rw [h] at g; cases g
    · rw [h] at g
      injection g with g
      subst g
      subst g1
      have hps : ps = #[] := by
        have := congrArg List.length g2
        simp at this
        exact this
      subst hps
      unfold bslE at hs
      split at hs
      · rename_i q hl
        exact ⟨t, el, q.2, q.1, ho, g3, hl⟩
      · exact hs.elim
  have := opB_plain (P := P) (H := H) (ev := ev) (d := o.dst) (op := o.op) (fun b t x y ty e => h1 ⟨b, t, x, y, ty, e⟩) (fun c e => h2 ⟨c, e⟩) (fun t n ps e => h3 ⟨t, n, ps, e⟩)
  rw [h] at this
  cases this
theorem opF_sound (h : opF P H o.dst ev o.op = .ok side e) (hs : side) : aEff P o ev e := by
  unfold opF at h
  cases hB : opB P H o.dst ev o.op with
  | bad => rw [hB] at h; cases h
  | ok s' e' => rw [hB] at h; injection h with h1 h2; subst h1; subst h2; exact opB_sound hB hs
  | _ => rw [hB] at h; cases h
theorem opF_any {q : Eff → Prop} (h : opF P H o.dst ev o.op = .any q) (hq : q e) : xEff P o ev e := by
  unfold opF at h
  cases hB : opB P H o.dst ev o.op with
  | bad => rw [hB] at h; injection h with h; subst h; exact .inr hq
  | any q' => rw [hB] at h; injection h with h; subst h; exact .inl (opB_any hB hq)
  | _ => rw [hB] at h; cases h
theorem opF_both (h : opF P H o.dst ev o.op = .both side) (hs : side) : ∃ t x y ty k el, o.op = .binOp .eql t x y ty ∧ ev x = .p (.sl k []) ∧ ev y = .p (.v (.slice none 0 0)) ∧ P.underlying t = some (.slice el) := by
  unfold opF at h
  cases hB : opB P H o.dst ev o.op with
  | bad => rw [hB] at h; cases h
  | both s' => rw [hB] at h; injection h with h1; subst h1; exact opB_both hB hs
  | _ => rw [hB] at h; cases h
theorem opF_each (h : opF P H o.dst ev o.op = .each side) (hs : side) : ∃ t el sz ag, o.op = .buildSlice t 0 #[] ∧ elOf P t = some el ∧ ldOf P el = some (ag, sz) := by
  unfold opF at h
  cases hB : opB P H o.dst ev o.op with
  | bad => rw [hB] at h; cases h
  | each s' => rw [hB] at h; injection h with h1; subst h1; exact opB_each hB hs
  | _ => rw [hB] at h; cases h
end
end Go.Av
end

section
/- Abstract values: regions that 'simp' runs. -/
namespace Go.Av
open Go
set_option linter.unusedVariables false
set_option linter.unusedSimpArgs false
set_option linter.unusedSectionVars false
variable [Globs]

def freeT (d : Nat) : List (Nat × AV) → Prop
  | [] => True
  | p :: l => d ∉ p.2.refs ∧ freeT d l
def freeH (d : Nat) : List (Nat × AObj) → Prop
  | [] => True
  | p :: l => d ∉ objRefs p.2 ∧ freeH d l
def newOk (T : List (Nat × AV)) (H : List (Nat × AObj)) : List Nat → Prop
  | [] => True
  | d :: l => (lkH H d = .dead ∧ freeT d T ∧ freeH d H) ∧ newOk T H l
def putT (d : Option Tmp) (v : AV) (T : List (Nat × AV)) : List (Nat × AV) :=
  match d with
  | some d => (d, v) :: T
  | none => T
def modL : List (Nat × AObj) → List (Nat × AObj) → List (Nat × AObj)
  | [], H => H
  | p :: l, H => modL l (p :: H)
theorem modL_eq : ∀ l H, modL l H = l.reverse ++ H
  | [], H => rfl
  | p :: l, H => by simp [modL, modL_eq l]
theorem app_eq {n : Nat} {T : List (Nat × AV)} {H : List (Nat × AObj)} {d : Option Tmp} {e : Eff} : LS.app ⟨n, T, H⟩ d e = ⟨n, putT d e.v T, modL e.mod H⟩ := by
  simp only [LS.app, modL_eq]; rfl
theorem freeT_spec {d : Nat} : ∀ {T : List (Nat × AV)}, freeT d T → ∀ p ∈ T, d ∉ p.2.refs
  | [], _, p, hp => by cases hp
  | q :: T, h, p, hp => by
    rcases List.mem_cons.1 hp with e | e
    · subst e; exact h.1
    · exact freeT_spec h.2 p e
theorem freeH_spec {d : Nat} : ∀ {T : List (Nat × AObj)}, freeH d T → ∀ p ∈ T, d ∉ objRefs p.2
  | [], _, p, hp => by cases hp
  | q :: T, h, p, hp => by
    rcases List.mem_cons.1 hp with e | e
    · subst e; exact h.1
    · exact freeH_spec h.2 p e
theorem newOk_spec {n : Nat} {T : List (Nat × AV)} {H : List (Nat × AObj)} : ∀ {l : List Nat}, newOk T H l → ∀ d ∈ l, lkH H d = .dead ∧ LS.free ⟨n, T, H⟩ d
  | [], _, d, hd => by cases hd
  | x :: l, h, d, hd => by
    rcases List.mem_cons.1 hd with e | e
    · subst e; exact ⟨h.1.1, freeT_spec h.1.2.1, freeH_spec h.1.2.2⟩
    · exact newOk_spec h.2 d e
theorem touchOk_spec {H : List (Nat × AObj)} : ∀ {l : List (Nat × AObj)}, touchOk H l → ∀ p ∈ l, lkH H p.1 = p.2
  | [], _, p, hp => by cases hp
  | q :: l, h, p, hp => by
    rcases List.mem_cons.1 hp with e | e
    · subst e; exact h.1
    · exact touchOk_spec h.2 p e

/-- The number at a place of a list. -/
def nth {α : Type} : List α → Nat → Option α
  | [], _ => none
  | a :: _, 0 => some a
  | _ :: l, n + 1 => nth l n
theorem nth_eq {α : Type} : ∀ (l : List α) (n : Nat), nth l n = l[n]?
  | [], _ => by simp [nth]
  | a :: l, 0 => by simp [nth]
  | a :: l, n + 1 => by simp [nth, nth_eq l n]

/-! ### regions in the order of the text -/
def bRes (d : Option Tmp) (s : LS) (k : LS → Prop) : Res → Prop
  | .ok side e => side ∧ touchOk s.H e.touch ∧ newOk s.T s.H e.new ∧ dOk s.n d ∧ k (s.app d e)
  | .any q => ∃ e, q e ∧ touchOk s.H e.touch ∧ newOk s.T s.H e.new ∧ dOk s.n d ∧ k (s.app d e)
  | .both side => side ∧ dOk s.n d ∧ ∀ b, k (s.app d { v := .p (.v (.bool b)) })
  | .each side => side ∧ dOk s.n d ∧ ∀ a, k (s.app d { v := .p (.v (.slice a 0 0)) })
  | .bad => False
def bGrd (d : Option Tmp) (s : LS) (k : LS → Prop) (res : Prop) (w : Bool) : AV → Prop
  | .p (.v (.bool b)) => if b = w then res else dOk s.n d ∧ k (s.app d skipE)
  | .tup [] => dOk s.n d ∧ k (s.app d skipE)
  | _ => False
def grdV (ds : List (Option Tmp)) (T : List (Nat × AV)) (j : Nat) : AV :=
  match nth ds j with
  | some (some d) => lkT T d
  | _ => .any 1
def bOps (P : Program) (ds : List (Option Tmp)) : List Oper → LS → (LS → Prop) → Prop
  | [], s, K => K s
  | o :: r, s, K => match o.guard with
    | none => bRes o.dst s (fun s' => bOps P ds r s' K) (opF P s.H o.dst s.ev o.op)
    | some (j, w) => bGrd o.dst s (fun s' => bOps P ds r s' K) (bRes o.dst s (fun s' => bOps P ds r s' K) (opF P s.H o.dst s.ev o.op)) w (grdV ds s.T j)
def bNext (P : Program) (ds : List (Option Tmp)) (d : Option Tmp) (r : List Oper) (s : LS) (K : LS → Prop) (x : Res) : Prop := bRes d s (fun s' => bOps P ds r s' K) x
/-- A guarded operation, by its guard. -/
def bGuard (P : Program) (ds : List (Option Tmp)) (d : Option Tmp) (op : Op) (r : List Oper) (s : LS) (K : LS → Prop) (w : Bool) (g : AV) : Prop :=
  bGrd d s (fun s' => bOps P ds r s' K) (bNext P ds d r s K (opF P s.H d s.ev op)) w g

section
variable {P : Program} {ds : List (Option Tmp)} {d : Option Tmp} {op : Op} {ty : TypeId} {pos : String} {after : Array Edge} {r : List Oper} {n : Nat} {T : List (Nat × AV)} {H : List (Nat × AObj)} {K : LS → Prop}

theorem bOps_nil {s : LS} : bOps P ds [] s K = K s := rfl
theorem bOps_plain : bOps P ds (⟨d, op, ty, pos, after, none⟩ :: r) ⟨n, T, H⟩ K = bNext P ds d r ⟨n, T, H⟩ K (opF P H d (LS.ev ⟨n, T, H⟩) op) := rfl
theorem bOps_guard {j : Nat} {w : Bool} : bOps P ds (⟨d, op, ty, pos, after, some (j, w)⟩ :: r) ⟨n, T, H⟩ K = bGuard P ds d op r ⟨n, T, H⟩ K w (grdV ds T j) := rfl
theorem bNext_ok {side : Prop} {v : AV} {t m : List (Nat × AObj)} {nw : List Nat} : bNext P ds d r ⟨n, T, H⟩ K (.ok side ⟨v, t, m, nw⟩) = (side ∧ touchOk H t ∧ newOk T H nw ∧ dOk n d ∧ bOps P ds r ⟨n, putT d v T, modL m H⟩ K) := by
  simp only [bNext, bRes, app_eq]
theorem bNext_both {side : Prop} : bNext P ds d r ⟨n, T, H⟩ K (.both side) = (side ∧ dOk n d ∧ ∀ b, bOps P ds r ⟨n, putT d (.p (.v (.bool b))) T, H⟩ K) := by
  simp only [bNext, bRes, app_eq, modL]
theorem bNext_each {side : Prop} : bNext P ds d r ⟨n, T, H⟩ K (.each side) = (side ∧ dOk n d ∧ ∀ a, bOps P ds r ⟨n, putT d (.p (.v (.slice a 0 0))) T, H⟩ K) := by
  simp only [bNext, bRes, app_eq, modL]
theorem bGuard_bool {w b : Bool} : bGuard P ds d op r ⟨n, T, H⟩ K w (.p (.v (.bool b))) = (if b = w then bNext P ds d r ⟨n, T, H⟩ K (opF P H d (LS.ev ⟨n, T, H⟩) op) else dOk n d ∧ bOps P ds r ⟨n, putT d (.tup []) T, H⟩ K) := by
  simp only [bGuard, bGrd, app_eq, modL, skipE]
theorem bGuard_tt : bGuard P ds d op r ⟨n, T, H⟩ K true (.p (.v (.bool true))) = bNext P ds d r ⟨n, T, H⟩ K (opF P H d (LS.ev ⟨n, T, H⟩) op) := by
  simp only [bGuard, bGrd, if_true]
theorem bGuard_ff : bGuard P ds d op r ⟨n, T, H⟩ K false (.p (.v (.bool false))) = bNext P ds d r ⟨n, T, H⟩ K (opF P H d (LS.ev ⟨n, T, H⟩) op) := by
  simp only [bGuard, bGrd, if_true]
theorem bGuard_tf : bGuard P ds d op r ⟨n, T, H⟩ K true (.p (.v (.bool false))) = (dOk n d ∧ bOps P ds r ⟨n, putT d (.tup []) T, H⟩ K) := by
  simp [bGuard, bGrd, app_eq, modL, skipE]
theorem bGuard_ft : bGuard P ds d op r ⟨n, T, H⟩ K false (.p (.v (.bool true))) = (dOk n d ∧ bOps P ds r ⟨n, putT d (.tup []) T, H⟩ K) := by
  simp [bGuard, bGrd, app_eq, modL, skipE]

theorem bGuard_no {w : Bool} : bGuard P ds d op r ⟨n, T, H⟩ K w (.tup []) = (dOk n d ∧ bOps P ds r ⟨n, putT d (.tup []) T, H⟩ K) := by
  simp only [bGuard, bGrd, app_eq, modL, skipE]
/-- A guard that is not known: both ways. -/
theorem bg_split {w b : Bool} (ht : b = true → bGuard P ds d op r ⟨n, T, H⟩ K w (.p (.v (.bool true)))) (hf : b = false → bGuard P ds d op r ⟨n, T, H⟩ K w (.p (.v (.bool false)))) : bGuard P ds d op r ⟨n, T, H⟩ K w (.p (.v (.bool b))) := by
  cases b
  · exact hf rfl
  · exact ht rfl
theorem grdV_spec {ops : Array Oper} {l : List Oper} (hl : ops.toList = l) {j : Nat} {x : AV} (h : grdV (l.map (·.dst)) T j = x) (hx : x ≠ .any 1) : ∃ d, guardD ops j = some d ∧ lkT T d = x := by
  unfold grdV at h
  split at h
  · rename_i d hd
    refine ⟨d, ?_, h⟩
    rw [nth_eq, List.getElem?_map] at hd
    unfold guardD
    rw [← hl] at hd
    rw [Array.getElem?_toList] at hd
    cases ho : ops[j]? with
    | none => rw [ho] at hd; cases hd
    | some o => rw [ho] at hd; simp at hd; simpa using hd
  · exact absurd h.symm hx

theorem bRes_sound {o : Oper} {s : LS} {k : LS → Prop} (h : bRes o.dst s k (opF P s.H o.dst s.ev o.op)) : aOp P o s k := by
  unfold bRes at h
  split at h
  · rename_i side e he
    obtain ⟨h1, h2, h3, h4, h5⟩ := h
    exact .inr (.inr ⟨e, .inl (opF_sound he h1), touchOk_spec h2, newOk_spec (n := s.n) h3, h4, h5⟩)
  · rename_i q he
    obtain ⟨e, h1, h2, h3, h4, h5⟩ := h
    exact .inr (.inr ⟨e, opF_any he h1, touchOk_spec h2, newOk_spec (n := s.n) h3, h4, h5⟩)
  · rename_i side he
    obtain ⟨h1, h2, h3⟩ := h
    obtain ⟨t, x, y, ty, k0, el, g1, g2, g3, g4⟩ := opF_both he h1
    exact .inl ⟨t, x, y, ty, k0, el, g1, g2, g3, g4, h2, h3⟩
  · rename_i side he
    obtain ⟨h1, h2, h3⟩ := h
    obtain ⟨t, el, sz, ag, g1, g2, g3⟩ := opF_each he h1
    exact .inr (.inl ⟨t, el, sz, ag, g1, g2, g3, h2, h3⟩)
  · exact h.elim

theorem aOp_mono {o : Oper} {s : LS} {k k' : LS → Prop} (h : aOp P o s k) (hk : ∀ s, k s → k' s) : aOp P o s k' := by
  rcases h with ⟨t, x, y, ty, k0, el, h1, h2, h3, h4, h5, h6⟩ | ⟨t, el, sz, ag, h1, h2, h3, h4, h5⟩ | ⟨e, h1, h2, h3, h4, h5⟩
  · exact .inl ⟨t, x, y, ty, k0, el, h1, h2, h3, h4, h5, fun b => hk _ (h6 b)⟩
  · exact .inr (.inl ⟨t, el, sz, ag, h1, h2, h3, h4, fun a => hk _ (h5 a)⟩)
  · exact .inr (.inr ⟨e, h1, h2, h3, h4, hk _ h5⟩)

theorem bOps_sound {ops : Array Oper} {L : List Oper} (hL : ops.toList = L) : ∀ (l : List Oper) (s : LS), bOps P (L.map (·.dst)) l s K → aOps P ops l s K
  | [], s, h => h
  | o :: r, s, h => by
    simp only [bOps] at h
    simp only [aOps]
    split at h
    · rename_i hg
      rw [hg]
      exact aOp_mono (bRes_sound h) fun s' h' => bOps_sound hL r s' h'
    · rename_i j w hg
      rw [hg]
      unfold bGrd at h
      split at h
      · rename_i b hb
        obtain ⟨d, g1, g2⟩ := grdV_spec hL hb (by simp)
        refine ⟨d, some b, g1, by rw [g2]; rfl, fun hbw => ?_, fun hbw => ?_⟩
        · rw [if_pos (by simpa using hbw)] at h
          exact aOp_mono (bRes_sound h) fun s' h' => bOps_sound hL r s' h'
        · rw [if_neg (by simpa using hbw)] at h
          exact ⟨h.1, bOps_sound hL r _ h.2⟩
      · rename_i hb
        obtain ⟨d, g1, g2⟩ := grdV_spec hL hb (by simp)
        exact ⟨d, none, g1, by rw [g2]; rfl, fun hbw => (by cases hbw), fun hbw => ⟨h.1, bOps_sound hL r _ h.2⟩⟩
      · exact h.elim

/-- A region, and what comes behind it. -/
theorem aw_reg {l : List Oper} {id : Nat} {y : Code} {Q : Exit → LS → Prop} {s : LS} {ds : List (Option Tmp)} (hds : l.map (·.dst) = ds) (h : ∀ K : LS → Prop, (∀ s, AWp P y Q s → K s) → bOps P ds l s K) : AWp P (.seq (.region id l.toArray false) y) Q s :=
  aw_seq fun K hK => aw_region (bOps_sound (L := l) (K := K) (by simp) _ _ (by subst hds; simpa using h K hK))
theorem aw_reg_last {l : List Oper} {id : Nat} {Q : Exit → LS → Prop} {s : LS} {ds : List (Option Tmp)} (hds : l.map (·.dst) = ds) (h : ∀ K : LS → Prop, (∀ s, Q .normal s → K s) → bOps P ds l s K) : AWp P (.region id l.toArray false) Q s :=
  aw_region (bOps_sound (L := l) (by simp) _ _ (by subst hds; simpa using h _ fun _ h => h))

/-! ### regions whose order is open -/
def Foot.of (v : AV) (t m : List (Nat × AObj)) (nw : List Nat) : Foot := Eff.foot ⟨v, t, m, nw⟩
def cRes (d : Option Tmp) (s : LS) (fs : List Foot) (ns : List Nat) (k : LS → List Foot → List Nat → Prop) : Res → Prop
  | .ok side e => side ∧ touchOk s.H e.touch ∧ dOk s.n d ∧ k (s.app d e) (e.foot :: fs) (e.new ++ ns)
  | .any q => ∃ e, q e ∧ touchOk s.H e.touch ∧ dOk s.n d ∧ k (s.app d e) (e.foot :: fs) (e.new ++ ns)
  | _ => False
def cGrd (d : Option Tmp) (s : LS) (fs : List Foot) (ns : List Nat) (k : LS → List Foot → List Nat → Prop) (res : Prop) (w : Bool) : AV → Prop
  | .p (.v (.bool b)) => if b = w then res else dOk s.n d ∧ k (s.app d skipE) (⟨[], [], [], []⟩ :: fs) ns
  | .tup [] => dOk s.n d ∧ k (s.app d skipE) (⟨[], [], [], []⟩ :: fs) ns
  | _ => False
def cOps (P : Program) (ds : List (Option Tmp)) : List Oper → LS → List Foot → List Nat → (List Foot → List Nat → LS → Prop) → Prop
  | [], s, fs, ns, K => K fs ns s
  | o :: r, s, fs, ns, K => match o.guard with
    | none => cRes o.dst s fs ns (fun s' fs' ns' => cOps P ds r s' fs' ns' K) (opF P s.H o.dst s.ev o.op)
    | some (j, w) => cGrd o.dst s fs ns (fun s' fs' ns' => cOps P ds r s' fs' ns' K) (cRes o.dst s fs ns (fun s' fs' ns' => cOps P ds r s' fs' ns' K) (opF P s.H o.dst s.ev o.op)) w (grdV ds s.T j)
def cNext (P : Program) (ds : List (Option Tmp)) (d : Option Tmp) (r : List Oper) (s : LS) (fs : List Foot) (ns : List Nat) (K : List Foot → List Nat → LS → Prop) (x : Res) : Prop := cRes d s fs ns (fun s' fs' ns' => cOps P ds r s' fs' ns' K) x
def cGuard (P : Program) (ds : List (Option Tmp)) (d : Option Tmp) (op : Op) (r : List Oper) (s : LS) (fs : List Foot) (ns : List Nat) (K : List Foot → List Nat → LS → Prop) (w : Bool) (g : AV) : Prop :=
  cGrd d s fs ns (fun s' fs' ns' => cOps P ds r s' fs' ns' K) (cNext P ds d r s fs ns K (opF P s.H d s.ev op)) w g
variable {fs : List Foot} {ns : List Nat} {J : List Foot → List Nat → LS → Prop}
theorem cOps_nil {s : LS} : cOps P ds [] s fs ns J = J fs ns s := rfl
theorem cOps_plain : cOps P ds (⟨d, op, ty, pos, after, none⟩ :: r) ⟨n, T, H⟩ fs ns J = cNext P ds d r ⟨n, T, H⟩ fs ns J (opF P H d (LS.ev ⟨n, T, H⟩) op) := rfl
theorem cOps_guard {j : Nat} {w : Bool} : cOps P ds (⟨d, op, ty, pos, after, some (j, w)⟩ :: r) ⟨n, T, H⟩ fs ns J = cGuard P ds d op r ⟨n, T, H⟩ fs ns J w (grdV ds T j) := rfl
theorem cNext_ok {side : Prop} {v : AV} {t m : List (Nat × AObj)} {nw : List Nat} : cNext P ds d r ⟨n, T, H⟩ fs ns J (.ok side ⟨v, t, m, nw⟩) = (side ∧ touchOk H t ∧ dOk n d ∧ cOps P ds r ⟨n, putT d v T, modL m H⟩ (Foot.of v t m nw :: fs) (nw ++ ns) J) := by
  simp only [cNext, cRes, app_eq]; rfl
theorem cGuard_bool {w b : Bool} : cGuard P ds d op r ⟨n, T, H⟩ fs ns J w (.p (.v (.bool b))) = (if b = w then cNext P ds d r ⟨n, T, H⟩ fs ns J (opF P H d (LS.ev ⟨n, T, H⟩) op) else dOk n d ∧ cOps P ds r ⟨n, putT d (.tup []) T, H⟩ (⟨[], [], [], []⟩ :: fs) ns J) := by
  simp only [cGuard, cGrd, app_eq, modL, skipE]
theorem cGuard_tt : cGuard P ds d op r ⟨n, T, H⟩ fs ns J true (.p (.v (.bool true))) = cNext P ds d r ⟨n, T, H⟩ fs ns J (opF P H d (LS.ev ⟨n, T, H⟩) op) := by
  simp only [cGuard, cGrd, if_true]
theorem cGuard_ff : cGuard P ds d op r ⟨n, T, H⟩ fs ns J false (.p (.v (.bool false))) = cNext P ds d r ⟨n, T, H⟩ fs ns J (opF P H d (LS.ev ⟨n, T, H⟩) op) := by
  simp only [cGuard, cGrd, if_true]
theorem cGuard_tf : cGuard P ds d op r ⟨n, T, H⟩ fs ns J true (.p (.v (.bool false))) = (dOk n d ∧ cOps P ds r ⟨n, putT d (.tup []) T, H⟩ (⟨[], [], [], []⟩ :: fs) ns J) := by
  simp [cGuard, cGrd, app_eq, modL, skipE]
theorem cGuard_ft : cGuard P ds d op r ⟨n, T, H⟩ fs ns J false (.p (.v (.bool true))) = (dOk n d ∧ cOps P ds r ⟨n, putT d (.tup []) T, H⟩ (⟨[], [], [], []⟩ :: fs) ns J) := by
  simp [cGuard, cGrd, app_eq, modL, skipE]

theorem cGuard_no {w : Bool} : cGuard P ds d op r ⟨n, T, H⟩ fs ns J w (.tup []) = (dOk n d ∧ cOps P ds r ⟨n, putT d (.tup []) T, H⟩ (⟨[], [], [], []⟩ :: fs) ns J) := by
  simp only [cGuard, cGrd, app_eq, modL, skipE]
theorem cg_split {w b : Bool} (ht : b = true → cGuard P ds d op r ⟨n, T, H⟩ fs ns J w (.p (.v (.bool true)))) (hf : b = false → cGuard P ds d op r ⟨n, T, H⟩ fs ns J w (.p (.v (.bool false)))) : cGuard P ds d op r ⟨n, T, H⟩ fs ns J w (.p (.v (.bool b))) := by
  cases b
  · exact hf rfl
  · exact ht rfl
theorem cOps_sound {ops : Array Oper} {L : List Oper} (hL : ops.toList = L) {K : List Eff → LS → Prop}
    (hK : ∀ es s fs ns, fs.reverse = es.map Eff.foot → (∀ e ∈ es, ∀ d ∈ e.new, d ∈ ns) → J fs ns s → K es s) :
    ∀ (l : List Oper) (s : LS) (fs : List Foot) (ns : List Nat) (es : List Eff), fs.reverse = es.map Eff.foot → (∀ e ∈ es, ∀ d ∈ e.new, d ∈ ns) → cOps P (L.map (·.dst)) l s fs ns J → aLex P ops l s es K
  | [], s, fs, ns, es, h1, h2, h => hK es s fs ns h1 h2 h
  | o :: r, s, fs, ns, es, h1, h2, h => by
    have go : cRes o.dst s fs ns (fun s' fs' ns' => cOps P (L.map (·.dst)) r s' fs' ns' J) (opF P s.H o.dst s.ev o.op) → ∃ e, xEff P o s.ev e ∧ (∀ p ∈ e.touch, lkH s.H p.1 = p.2) ∧ dOk s.n o.dst ∧ aLex P ops r (s.app o.dst e) (es ++ [e]) K := by
      intro h
      have fin : ∀ e, cOps P (L.map (·.dst)) r (s.app o.dst e) (e.foot :: fs) (e.new ++ ns) J → aLex P ops r (s.app o.dst e) (es ++ [e]) K := fun e h =>
        cOps_sound hL hK r _ _ _ _ (by simp [h1]) (fun e' he' d hd => by
          rcases List.mem_append.1 he' with h3 | h3
          · exact List.mem_append.2 (.inr (h2 e' h3 d hd))
          · simp at h3; subst h3; exact List.mem_append.2 (.inl hd)) h
      unfold cRes at h
      split at h
      · rename_i side e he
        obtain ⟨g1, g2, g4, g5⟩ := h
        exact ⟨e, .inl (opF_sound he g1), touchOk_spec g2, g4, fin e g5⟩
      · rename_i q he
        obtain ⟨e, g1, g2, g4, g5⟩ := h
        exact ⟨e, opF_any he g1, touchOk_spec g2, g4, fin e g5⟩
      · exact h.elim
    have skip : (dOk s.n o.dst ∧ cOps P (L.map (·.dst)) r (s.app o.dst skipE) (⟨[], [], [], []⟩ :: fs) ns J) → dOk s.n o.dst ∧ aLex P ops r (s.app o.dst skipE) (es ++ [skipE]) K := fun h =>
      ⟨h.1, cOps_sound hL hK r _ _ _ _ (by simp [h1, Eff.foot, Eff.refs, idsOf, AV.refs, AV.refsL, skipE]) (fun e' he' d hd => by
            rcases List.mem_append.1 he' with h3 | h3
            · exact h2 e' h3 d hd
            · simp at h3; subst h3; cases hd) h.2⟩
    simp only [cOps] at h
    simp only [aLex]
    split at h
    · rename_i hg
      rw [hg]
      exact go h
    · rename_i j w hg
      rw [hg]
      unfold cGrd at h
      split at h
      · rename_i b hb
        obtain ⟨d, g1, g2⟩ := grdV_spec hL hb (by simp)
        refine ⟨d, some b, g1, by rw [g2]; rfl, fun hbw => ?_, fun hbw => ?_⟩
        · rw [if_pos (by simpa using hbw)] at h
          exact go h
        · rw [if_neg (by simpa using hbw)] at h
          exact skip h
      · rename_i hb
        obtain ⟨d, g1, g2⟩ := grdV_spec hL hb (by simp)
        exact ⟨d, none, g1, by rw [g2]; rfl, fun hbw => (by cases hbw), fun hbw => skip h⟩
      · exact h.elim

def drawEnd (bs : List Nat) (T : List (Nat × AV)) (H : List (Nat × AObj)) (fs : List Foot) (ns : List Nat) : Prop := pairsOk bs fs.reverse = true ∧ newOk T H ns

theorem aw_draw {l : List Oper} {id : Nat} {y : Code} {Q : Exit → LS → Prop} {ds : List (Option Tmp)} (bs : List Nat) (hB : drawB P l.toArray = true) (hbs : befs l = bs) (hds : l.map (·.dst) = ds)
    (h : ∀ J : List Foot → List Nat → LS → Prop, (∀ fs ns s, drawEnd bs T H fs ns → AWp P y Q s → J fs ns s) → cOps P ds l ⟨n, T, H⟩ [] [] J) : AWp P (.seq (.region id l.toArray true) y) Q ⟨n, T, H⟩ :=
  aw_seq fun K hK => by
    refine aw_region_draw bs hB (by simpa using hbs) ?_
    have := h (fun fs ns s => drawEnd bs T H fs ns ∧ K s) (fun fs ns s h1 h2 => ⟨h1, hK s h2⟩)
    subst hds
    refine cOps_sound (L := l) (by simp) (J := fun fs ns s => drawEnd bs T H fs ns ∧ K s) (fun es s fs ns h1 h2 ⟨⟨h3, h4⟩, h5⟩ => ?_) _ _ [] [] [] rfl (by simp) (by simpa using this)
    rw [h1] at h3
    exact ⟨h3, fun e he d hd => newOk_spec (n := n) h4 d (h2 e he d hd), h5⟩

theorem aw_draw_last {l : List Oper} {id : Nat} {Q : Exit → LS → Prop} {ds : List (Option Tmp)} (bs : List Nat) (hB : drawB P l.toArray = true) (hbs : befs l = bs) (hds : l.map (·.dst) = ds)
    (h : ∀ J : List Foot → List Nat → LS → Prop, (∀ fs ns s, drawEnd bs T H fs ns → Q .normal s → J fs ns s) → cOps P ds l ⟨n, T, H⟩ [] [] J) : AWp P (.region id l.toArray true) Q ⟨n, T, H⟩ := by
  refine aw_region_draw bs hB (by simpa using hbs) ?_
  have := h (fun fs ns s => drawEnd bs T H fs ns ∧ Q .normal s) (fun fs ns s h1 h2 => ⟨h1, h2⟩)
  subst hds
  refine cOps_sound (L := l) (by simp) (J := fun fs ns s => drawEnd bs T H fs ns ∧ Q .normal s) (fun es s fs ns h1 h2 ⟨⟨h3, h4⟩, h5⟩ => ?_) _ _ [] [] [] rfl (by simp) (by simpa using this)
  rw [h1] at h3
  exact ⟨h3, fun e he d hd => newOk_spec (n := n) h4 d (h2 e he d hd), h5⟩

/-! ### calls -/
def deads (hc : List (Nat × AObj)) : List (Nat × AObj) := hc.map fun p => (p.1, .dead)
def newsOf (hc hr : List (Nat × AObj)) : List Nat := (idsOf hr).filter fun i => !(idsOf hc).contains i
def allDead : List (Nat × AObj) → Prop
  | [] => True
  | p :: l => p.2 ≠ .dead ∧ allDead l
theorem allDead_spec : ∀ {l : List (Nat × AObj)}, allDead l → ∀ p ∈ l, p.2 ≠ .dead
  | [], _, p, hp => by cases hp
  | q :: l, h, p, hp => by
    rcases List.mem_cons.1 hp with e | e
    · subst e; exact h.1
    · exact allDead_spec h.2 p e
/-- What is asked of a contract's numbers. -/
def idsOk (hc : List (Nat × AObj)) (rv : AV) (hr : List (Nat × AObj)) : Prop :=
  allDead hc ∧ (idsOf hc).Nodup ∧ (idsOf hr).Nodup ∧ (∀ i ∈ rv.refs, i ∈ idsOf hr) ∧ (∀ i ∈ refsIn hr, i ∈ idsOf hr) ∧ (∀ i ∈ idsOf hr, i ∈ idsOf hc ∨ i < 1000)
/-- What a call makes of a state. -/
theorem callEff_of {g : FuncId} {args args' : List AV} {hc : List (Nat × AObj)} {rv : AV} {hr : List (Nat × AObj)} (h : ACalls P g args' hc rv hr) (hle : leAll args args') (hid : idsOk hc rv hr) :
    callEff P g args ⟨rv, hc, deads hc ++ hr, newsOf hc hr⟩ :=
  .inl ⟨args', hc, rv, hr, h, hle, allDead_spec hid.1, hid.2.1, hid.2.2.1, hid.2.2.2.1, hid.2.2.2.2.1, hid.2.2.2.2.2, by simp only [deads, newsOf, idsOf, List.map_map]; rfl⟩
theorem callEff_ro {g : FuncId} {args args' : List AV} {hc : List (Nat × AObj)} {rv : AV} (h : ACalls P g args' hc rv hc) (hle : leAll args args') (hid : idsOk hc rv hc) : callEff P g args ⟨rv, hc, [], []⟩ :=
  .inr ⟨rv, hc, ⟨args', hc, rv, hc, h, hle, allDead_spec hid.1, hid.2.1, hid.2.2.1, hid.2.2.2.1, hid.2.2.2.2.1, hid.2.2.2.2.2, rfl⟩, hid.2.1, rfl⟩
/-- A call that leaves what it is lent as it was. -/
theorem bcallR {g : FuncId} {args args' : List AV} {hc : List (Nat × AObj)} {rv : AV} (h : ACalls P g args' hc rv hc) (hle : leAll args args') (hid : idsOk hc rv hc) (ht : touchOk H hc) (hn : True) (hd : dOk n d)
    (hK : bOps P ds r ⟨n, putT d rv T, H⟩ K) : bNext P ds d r ⟨n, T, H⟩ K (fnCall P (.p (.v (.func (.func g) #[] #[]))) args) := by
  refine ⟨_, ⟨rfl, rfl, callEff_ro h hle hid⟩, ht, trivial, hd, ?_⟩
  exact hK
theorem ccallR {g : FuncId} {args args' : List AV} {hc : List (Nat × AObj)} {rv : AV} (h : ACalls P g args' hc rv hc) (hle : leAll args args') (hid : idsOk hc rv hc) (ht : touchOk H hc) (hd : dOk n d)
    (hK : cOps P ds r ⟨n, putT d rv T, H⟩ (Foot.of rv hc [] [] :: fs) ns J) : cNext P ds d r ⟨n, T, H⟩ fs ns J (fnCall P (.p (.v (.func (.func g) #[] #[]))) args) := by
  refine ⟨_, ⟨rfl, rfl, callEff_ro h hle hid⟩, ht, hd, ?_⟩
  exact hK
theorem bcall {g : FuncId} {args args' : List AV} {hc : List (Nat × AObj)} {rv : AV} {hr : List (Nat × AObj)} (h : ACalls P g args' hc rv hr) (hle : leAll args args') (hid : idsOk hc rv hr) (ht : touchOk H hc) (hn : newOk T H (newsOf hc hr)) (hd : dOk n d)
    (hK : bOps P ds r ⟨n, putT d rv T, modL (deads hc ++ hr) H⟩ K) : bNext P ds d r ⟨n, T, H⟩ K (fnCall P (.p (.v (.func (.func g) #[] #[]))) args) := by
  refine ⟨_, ⟨rfl, rfl, callEff_of h hle hid⟩, ht, hn, hd, ?_⟩
  simpa only [app_eq] using hK
theorem bcallC {g : FuncId} {caps args args' : List AV} {hc : List (Nat × AObj)} {rv : AV} {hr : List (Nat × AObj)} (h : ACalls P g args' hc rv hr) (hle : leAll (args ++ caps) args') (hid : idsOk hc rv hr) (ht : touchOk H hc) (hn : newOk T H (newsOf hc hr)) (hd : dOk n d)
    (hK : bOps P ds r ⟨n, putT d rv T, modL (deads hc ++ hr) H⟩ K) : bNext P ds d r ⟨n, T, H⟩ K (fnCall P (.fn (.func g) caps) args) := by
  refine ⟨_, callEff_of h hle hid, ht, hn, hd, ?_⟩
  simpa only [app_eq] using hK
theorem ccall {g : FuncId} {args args' : List AV} {hc : List (Nat × AObj)} {rv : AV} {hr : List (Nat × AObj)} (h : ACalls P g args' hc rv hr) (hle : leAll args args') (hid : idsOk hc rv hr) (ht : touchOk H hc) (hd : dOk n d)
    (hK : cOps P ds r ⟨n, putT d rv T, modL (deads hc ++ hr) H⟩ (Foot.of rv hc (deads hc ++ hr) (newsOf hc hr) :: fs) (newsOf hc hr ++ ns) J) : cNext P ds d r ⟨n, T, H⟩ fs ns J (fnCall P (.p (.v (.func (.func g) #[] #[]))) args) := by
  refine ⟨_, ⟨rfl, rfl, callEff_of h hle hid⟩, ht, hd, ?_⟩
  simp only [app_eq]; exact hK
theorem ccallC {g : FuncId} {caps args args' : List AV} {hc : List (Nat × AObj)} {rv : AV} {hr : List (Nat × AObj)} (h : ACalls P g args' hc rv hr) (hle : leAll (args ++ caps) args') (hid : idsOk hc rv hr) (ht : touchOk H hc) (hd : dOk n d)
    (hK : cOps P ds r ⟨n, putT d rv T, modL (deads hc ++ hr) H⟩ (Foot.of rv hc (deads hc ++ hr) (newsOf hc hr) :: fs) (newsOf hc hr ++ ns) J) : cNext P ds d r ⟨n, T, H⟩ fs ns J (fnCall P (.fn (.func g) caps) args) := by
  refine ⟨_, callEff_of h hle hid, ht, hd, ?_⟩
  simp only [app_eq]; exact hK
theorem idsOk_none {rv : AV} (h : rv.refs = []) : idsOk [] rv [] := ⟨trivial, .nil, .nil, by simp [h], by simp [refsIn], by simp [idsOf]⟩
/-- Calls of functions that own nothing. -/
theorem bcall0 {g : FuncId} {args args' : List AV} {rv : AV} (h : ACalls P g args' [] rv []) (hle : leAll args args') (hr : rv.refs = []) (hd : dOk n d)
    (hK : bOps P ds r ⟨n, putT d rv T, H⟩ K) : bNext P ds d r ⟨n, T, H⟩ K (fnCall P (.p (.v (.func (.func g) #[] #[]))) args) :=
  bcall h hle (idsOk_none hr) trivial trivial hd hK
theorem ccall0 {g : FuncId} {args args' : List AV} {rv : AV} (h : ACalls P g args' [] rv []) (hle : leAll args args') (hr : rv.refs = []) (hd : dOk n d)
    (hK : cOps P ds r ⟨n, putT d rv T, H⟩ (⟨[], [], [], []⟩ :: fs) ns J) : cNext P ds d r ⟨n, T, H⟩ fs ns J (fnCall P (.p (.v (.func (.func g) #[] #[]))) args) :=
  ccall h hle (idsOk_none hr) trivial hd (by simpa [Foot.of, Eff.foot, Eff.refs, idsOf, hr, deads, newsOf, modL] using hK)
end
omit [Globs] in
theorem zeroChk_of {P : Program} {t : TypeId} {z : PV} {v : Value} (h1 : zeroPV P t = some z) (h2 : (P.info? t).bind (·.zero) = some v) (h3 : v.cells.toList = z.flat) (h4 : z.plain = true) : zeroChk P t := by
  cases hi : P.info? t with
  | none => rw [hi] at h2; cases h2
  | some i => rw [hi] at h2; exact ⟨z, i, v, h1, hi, h2, h3, h4⟩

end Go.Av
end

section
/- Abstract values: what 'simp' runs with. -/
namespace Go.Av
open Go
set_option linter.unusedVariables false
set_option linter.unusedSimpArgs false
set_option linter.unusedSectionVars false
variable [Globs]

theorem ev_tmp {n t : Nat} {T : List (Nat × AV)} {H : List (Nat × AObj)} : LS.ev ⟨n, T, H⟩ (.tmp t) = lkT T t := rfl
theorem ev_const {n : Nat} {v : Value} {T : List (Nat × AV)} {H : List (Nat × AObj)} : LS.ev ⟨n, T, H⟩ (.const v) = if v.oneCell' then .p (.v v) else .any 1 := rfl
theorem ev_global {n g : Nat} {T : List (Nat × AV)} {H : List (Nat × AObj)} : LS.ev ⟨n, T, H⟩ (.global g) = globV (lkG Globs.G g) g := rfl
attribute [go_sem] globV lkG
theorem ev_func {n f : Nat} {T : List (Nat × AV)} {H : List (Nat × AObj)} : LS.ev ⟨n, T, H⟩ (.func f) = .p (.v (.func (.func f) #[] #[])) := rfl
theorem putT_some {d : Nat} {v : AV} {T : List (Nat × AV)} : putT (some d) v T = (d, v) :: T := rfl
theorem putT_none {v : AV} {T : List (Nat × AV)} : putT none v T = T := rfl
theorem modL_nil {H : List (Nat × AObj)} : modL [] H = H := rfl
theorem modL_cons {p : Nat × AObj} {l H : List (Nat × AObj)} : modL (p :: l) H = modL l (p :: H) := rfl
theorem dOk_some {n d : Nat} : dOk n (some d) = (d < n) := rfl
theorem dOk_none {n : Nat} : dOk n none = True := rfl
theorem touchOk_nil {H : List (Nat × AObj)} : touchOk H [] = True := rfl
theorem touchOk_cons {H : List (Nat × AObj)} {i : Nat} {o : AObj} {l : List (Nat × AObj)} : touchOk H ((i, o) :: l) = (lkH H i = o ∧ touchOk H l) := rfl
theorem newOk_nil {T : List (Nat × AV)} {H : List (Nat × AObj)} : newOk T H [] = True := rfl
theorem newOk_cons {T : List (Nat × AV)} {H : List (Nat × AObj)} {d : Nat} {l : List Nat} : newOk T H (d :: l) = ((lkH H d = .dead ∧ freeT d T ∧ freeH d H) ∧ newOk T H l) := rfl
theorem freeT_nil {d : Nat} : freeT d [] = True := rfl
theorem freeT_cons {d i : Nat} {v : AV} {l : List (Nat × AV)} : freeT d ((i, v) :: l) = (d ∉ v.refs ∧ freeT d l) := rfl
theorem freeH_nil {d : Nat} : freeH d [] = True := rfl
theorem freeH_row {d i ty : Nat} {c : AV} {l : List (Nat × AObj)} : freeH d ((i, .row ty c) :: l) = (d ∉ c.refs ∧ freeH d l) := rfl
theorem freeH_tail {d i n : Nat} {l : List (Nat × AObj)} : freeH d ((i, .tail n) :: l) = freeH d l := by simp [freeH, objRefs]
theorem freeH_dead {d i : Nat} {l : List (Nat × AObj)} : freeH d ((i, .dead) :: l) = freeH d l := by simp [freeH, objRefs]
theorem nth_zero {α : Type} {a : α} {l : List α} : nth (a :: l) 0 = some a := rfl
theorem nth_succ {α : Type} {a : α} {l : List α} {n : Nat} : nth (a :: l) (n + 1) = nth l n := rfl
theorem grdV_eq {ds : List (Option Tmp)} {T : List (Nat × AV)} {j d : Nat} (h : nth ds j = some (some d)) : grdV ds T j = lkT T d := by unfold grdV; rw [h]

theorem all_nil {α : Type} {p : α → Prop} : (∀ x ∈ ([] : List α), p x) = True := by simp
/-- A state told by less, part by part. -/
def lessT (T : List (Nat × AV)) : List (Nat × AV) → Prop
  | [] => True
  | p :: l => AV.le (lkT T p.1) p.2 ∧ lessT T l
def lessH (H : List (Nat × AObj)) : List (Nat × AObj) → Prop
  | [] => True
  | p :: l => lkH H p.1 = p.2 ∧ lessH H l
theorem lessT_nil {T : List (Nat × AV)} : lessT T [] = True := rfl
theorem lessT_cons {T l : List (Nat × AV)} {i : Nat} {v : AV} : lessT T ((i, v) :: l) = (AV.le (lkT T i) v ∧ lessT T l) := rfl
theorem lessH_nil {H : List (Nat × AObj)} : lessH H [] = True := rfl
theorem lessH_cons {H l : List (Nat × AObj)} {i : Nat} {o : AObj} : lessH H ((i, o) :: l) = (lkH H i = o ∧ lessH H l) := rfl
theorem lessT_spec {T : List (Nat × AV)} : ∀ {l : List (Nat × AV)}, lessT T l → ∀ p ∈ l, AV.le (lkT T p.1) p.2
  | [], _, p, hp => by cases hp
  | q :: l, h, p, hp => by
    rcases List.mem_cons.1 hp with e | e
    · subst e; exact h.1
    · exact lessT_spec h.2 p e
theorem lessH_spec {H : List (Nat × AObj)} : ∀ {l : List (Nat × AObj)}, lessH H l → ∀ p ∈ l, lkH H p.1 = p.2
  | [], _, p, hp => by cases hp
  | q :: l, h, p, hp => by
    rcases List.mem_cons.1 hp with e | e
    · subst e; exact h.1
    · exact lessH_spec h.2 p e
theorem imp_less {n : Nat} {T T' : List (Nat × AV)} {H H' : List (Nat × AObj)} (h : lessT T T' ∧ lessH H H') : LS.imp ⟨n, T, H⟩ ⟨n, T', H'⟩ :=
  imp_sub rfl (lessT_spec h.1) (lessH_spec h.2)
attribute [go_sem] Int.natCast_zero Int.toNat_natCast Int.natCast_nonneg Int.natCast_add
attribute [go_sem] lessT_nil lessT_cons lessH_nil lessH_cons List.length_map
attribute [go_sem] bOps_nil bOps_plain bOps_guard bNext_ok bNext_both bNext_each bGuard_tt bGuard_ff bGuard_tf bGuard_ft bGuard_no cOps_nil cOps_plain cOps_guard cNext_ok cGuard_tt cGuard_ff cGuard_tf cGuard_ft cGuard_no
  ev_tmp ev_const ev_global ev_func putT_some putT_none modL_nil modL_cons dOk_some dOk_none touchOk_nil touchOk_cons newOk_nil newOk_cons freeT_nil freeT_cons freeH_nil freeH_row freeH_tail freeH_dead
  nth_zero nth_succ grdV lkT_cons lkH_cons lkT_nil lkH_nil
attribute [go_sem] loadF loadF1 loadF2 storeF storeF1 storeF2 nilF nilF1 isSlice nilCmp bslE intF shF eqF valF isConst binF binF1 binF2 unF unF1 unF2 convF convF1 ifcF fnF fldF fldF0 fldF1 fldF2 fldG1 fieldF fieldF0 fieldF1 fieldF2
  ldNz ldSz elNz arL arL2 elSz iadF iadF1 iadF2 iadO1 iadO2 iadP idxF idxF1 extF extF1 bndF slcF slcF2 slcN2 slcA1 slcA2 setAllF bldF bldF2 pviews bslF bslF2 bslF3 lenF lenF1 lenO1 srcF srcF0 srcF1 appF appF1 appF2 appF3 appT
  minF maxF callF pickF allocF boxF opB opF orC_ok orC_any orC_both orC_each orC_bad orC_call orC_tree
attribute [go_sem] Shape.cnt List.getD_cons_zero List.getD_cons_succ
attribute [go_sem] ix_zero ix_succ exists_eq_left
attribute [go_sem] Value.oneCell' AV.cellish AV.isAgg AV.size AV.sizeL PV.size PV.sizeL AV.shape AV.shapeL PV.shape PV.shapeL Shape.size Shape.sizeL Shape.off PV.get? PV.set? AV.get? AV.set? AV.refs AV.refsL AV.pview AV.pviewL AV.elems AV.cnt Shape.uni
  leAll Foot.of Eff.foot Eff.refs idsOf objRefs deads newsOf
attribute [go_sem] if_true if_false ite_true ite_false Bool.true_or Bool.or_true Bool.false_or Bool.or_false Bool.true_and Bool.and_true Bool.false_and Bool.and_false Bool.not_true Bool.not_false true_and and_true false_and and_false true_or or_true false_or or_false not_true not_false_eq_true
  Bool.false_eq_true Bool.true_eq_false Bool.not_eq_true eq_self ne_eq Option.some.injEq Prod.mk.injEq Option.map_some Option.map_none List.map_cons List.map_nil List.take_succ_cons List.take_zero List.take_nil List.getElem?_cons_zero List.getElem?_cons_succ List.getElem?_nil
  List.set_cons_zero List.set_cons_succ List.not_mem_nil List.nil_append List.cons_append List.append_nil List.mem_cons List.length_cons List.length_nil exists_eq' exists_eq_left' Nat.zero_add Nat.add_zero and_self List.forall_mem_cons all_nil Option.bind_some
  AObj.row.injEq AObj.tail.injEq Nat.lt_irrefl List.flatMap_cons List.flatMap_nil implies_true List.append_assoc List.reverse_cons List.reverse_nil
attribute [go_sem] Nat.reduceLT Nat.reduceLeDiff Nat.reduceEqDiff Nat.reduceBEq Nat.reduceBNe Nat.reduceAdd Nat.reduceMul Nat.reduceSub Int.reduceLT Int.reduceLE Int.reduceGT Int.reduceGE Int.reduceEq Int.reduceNe Int.reduceBEq Int.reduceBNe Int.reduceToNat Int.reduceNegSucc Int.reduceNeg reduceIte reduceCtorEq List.reduceReplicate Nat.reduceGT
  Int.reduceAdd Int.reduceSub Int.reduceMul Int.reduceTDiv Int.reduceTMod
theorem le_refl' (a : AV) : AV.le a a = True := by simp [AV.le]
theorem le_slt {tok k : Nat} {es : List PV} : AV.le (.slt tok k es) (.p (.sl k es)) = True := by simp [AV.le, AV.pview]
theorem le_nil {k : Nat} : AV.le (.p (.v (.slice none 0 0))) (.p (.sl k [])) = True := by simp [AV.le]
attribute [go_sem] le_refl' le_slt le_nil List.filter_cons List.filter_nil List.contains_nil List.contains_cons List.length_append

/-- A slice with elements is not nil. -/
theorem binRun_cons {P : Program} {t el : TypeId} {x y : Operand} {k : Nat} {e : PV} {es : List PV} (hu : P.underlying t = some (.slice el)) : BinRun P .eql t x y (.sl k (e :: es)) (.v (.slice none 0 0)) (.bool false) := by
  refine ⟨rfl, fun w A ux uy hx hy => ?_⟩
  simp only [AV.isAgg, Bool.false_eq_true, if_false] at hx hy
  have e2 := hy.v_inv
  injection e2 with e2 _
  subst e2
  obtain ⟨b, n, c, rfl⟩ : ∃ b n c, ux = .slice (some b) n c := by
    have : ∀ vs : List Value, RepP w A vs (.sl k (e :: es)) → ∃ b n c, vs = [.slice (some b) n c] := fun vs hv => by
      cases hv with
      | sl g hn _ _ _ _ => exact ⟨_, _, _, rfl⟩
    obtain ⟨b, n, c, h⟩ := this _ hx
    injection h with h _
    exact ⟨b, n, c, h⟩
  have e1 : (eqGuard .eql t x y (.slice (some b) n c) (.slice none 0 0)).run P w = .ok () w := by simp [eqGuard]
  have e3 : ∀ m, (Op.equalIn (m + 1) t (.slice (some b) n c) (.slice none 0 0)).run P w = .ok false w := fun m => by simp [Op.equalIn, run_underlying hu]
  have e4 : (Op.equal t (.slice (some b) n c) (.slice none 0 0)).run P w = .ok false w := e3 9999
  have e5 : binOp .eql t (.slice (some b) n c) (.slice none 0 0) = (do pure (.bool (← Op.equal t (.slice (some b) n c) (.slice none 0 0)))) := rfl
  simp only [Sem.run_bind, e1, Result.andThen_ok, e5, e4, Sem.run_pure]
section
variable {P : Program} {ds : List (Option Tmp)} {d : Option Tmp} {r : List Oper} {n : Nat} {T : List (Nat × AV)} {H : List (Nat × AObj)} {K : LS → Prop} {fs : List Foot} {ns : List Nat} {J : List Foot → List Nat → LS → Prop}
/-- An operation by a law of its own. -/
theorem bcust {dst : Option Tmp} {op : Op} {ev : Operand → AV} {v : AV} {tc md : List (Nat × AObj)} {nw : List Nat} (h : Cust P dst op ev ⟨v, tc, md, nw⟩) (ht : touchOk H tc) (hn : newOk T H nw) (hd : dOk n d)
    (hK : bOps P ds r ⟨n, putT d v T, modL md H⟩ K) : bNext P ds d r ⟨n, T, H⟩ K (custF P dst op ev) := by
  refine ⟨_, h, ht, hn, hd, ?_⟩
  simpa only [app_eq] using hK
theorem ccust {dst : Option Tmp} {op : Op} {ev : Operand → AV} {v : AV} {tc md : List (Nat × AObj)} {nw : List Nat} (h : Cust P dst op ev ⟨v, tc, md, nw⟩) (ht : touchOk H tc) (hd : dOk n d)
    (hK : cOps P ds r ⟨n, putT d v T, modL md H⟩ (Foot.of v tc md nw :: fs) (nw ++ ns) J) : cNext P ds d r ⟨n, T, H⟩ fs ns J (custF P dst op ev) := by
  refine ⟨_, h, ht, hd, ?_⟩
  simp only [app_eq]; exact hK
theorem btree {op : BinOp} {t : TypeId} {x y : Operand} {X Y : PV} {v : Value} (h : BinRun P op t x y X Y v) (hd : dOk n d) (hK : bOps P ds r ⟨n, putT d (.p (.v v)) T, H⟩ K) : bNext P ds d r ⟨n, T, H⟩ K (treeF P op t x y X Y) := by
  refine ⟨_, ⟨v, h, rfl⟩, trivial, trivial, hd, ?_⟩
  simpa only [app_eq, modL] using hK
theorem ctree {op : BinOp} {t : TypeId} {x y : Operand} {X Y : PV} {v : Value} (h : BinRun P op t x y X Y v) (hd : dOk n d) (hK : cOps P ds r ⟨n, putT d (.p (.v v)) T, H⟩ (⟨[], [], [], []⟩ :: fs) ns J) : cNext P ds d r ⟨n, T, H⟩ fs ns J (treeF P op t x y X Y) := by
  refine ⟨_, ⟨v, h, rfl⟩, trivial, hd, ?_⟩
  simpa only [app_eq, modL, Eff.foot, Eff.refs, idsOf, AV.refs, List.map_nil, List.append_nil, List.nil_append, List.flatMap_nil] using hK
end
theorem le_of_eq {a b : AV} (h : a = b) : AV.le a b := .inl h
theorem le_bool {a b : Bool} (h : a = b) : AV.le (.p (.v (.bool a))) (.p (.v (.bool b))) := .inl (by rw [h])
theorem le_int {k : IntKind} {a b : Int} (h : a = b) : AV.le (.p (.v (.int k a))) (.p (.v (.int k b))) := .inl (by rw [h])
theorem wrap_i64 {n : Int} (h1 : -9223372036854775808 ≤ n) (h2 : n < 9223372036854775808) : IntKind.wrap .i64 n = n := by
  simp [IntKind.wrap, IntKind.bits, IntKind.signed]
  omega
theorem wrap_u64 {n : Int} (h1 : 0 ≤ n) (h2 : n < 18446744073709551616) : IntKind.wrap .u64 n = n := by
  simp [IntKind.wrap, IntKind.bits, IntKind.signed]
  omega
theorem wrap_u8 {n : Int} (h1 : 0 ≤ n) (h2 : n < 256) : IntKind.wrap .u8 n = n := by
  simp [IntKind.wrap, IntKind.bits, IntKind.signed]
  omega
theorem wrap_nat {n : Nat} (h : n < 1000000000000000000) : IntKind.wrap .i64 (n : Int) = n := wrap_i64 (by omega) (by omega)

section
variable {P : Program} {n : Nat} {T : List (Nat × AV)} {H hr : List (Nat × AObj)} {r : AV}
/-- The end of a function with one result. -/
theorem ret_tmp {t : Tmp} (h1 : AV.le (lkT T t) r) (h2 : lessH H hr) : fnQ P [.tmp t] r hr .ret ⟨n, T, H⟩ :=
  ⟨⟨_, rfl, h1⟩, lessH_spec h2⟩
theorem ret_cell {a id ty : Nat} {t : TypeId} {path : List Nat} {c x : AV} (h1 : lkT T a = .ptr id path) (h2 : lkH H id = .row ty c) (h3 : c.get? path = some x) (h4 : x.cellish = true ∧ ldOf P t = some (x.isAgg, x.size)) (h5 : AV.le x r) (h6 : lessH H hr) :
    fnQ P [.cell a t] r hr .ret ⟨n, T, H⟩ :=
  ⟨⟨x, by
    show match lkT T a with
      | .ptr id path => ∃ ty c, lkH H id = .row ty c ∧ c.get? path = some x ∧ x.cellish = true ∧ ldOf P t = some (x.isAgg, x.size)
      | _ => False
    rw [h1]
    exact ⟨_, _, h2, h3, h4.1, h4.2⟩, h5⟩, lessH_spec h6⟩
/-- The end of a function with two results. -/
theorem ret_tmp2 {t u : Tmp} {x y : AV} (h1 : AV.le (lkT T t) x) (h2 : AV.le (lkT T u) y) (h3 : lessH H hr) : fnQ P [.tmp t, .tmp u] (.tup [x, y]) hr .ret ⟨n, T, H⟩ :=
  ⟨⟨[_, _], [x, y], ⟨_, _, rfl, rfl, _, _, rfl, rfl, rfl⟩, rfl, h1, h2, trivial⟩, lessH_spec h3⟩
/-- The end of a function without results. -/
theorem end_none (h : lessH H hr) : fnQ P [] (.tup []) hr .normal ⟨n, T, H⟩ :=
  ⟨⟨[], [], rfl, rfl, trivial⟩, lessH_spec h⟩
theorem ret_none (h : lessH H hr) : fnQ P [] (.tup []) hr .ret ⟨n, T, H⟩ :=
  ⟨⟨[], [], rfl, rfl, trivial⟩, lessH_spec h⟩
end
end Go.Av
end

section
/- Abstract values: the data of the bayou's layers. -/
namespace Go.Av
open Go
set_option linter.unusedSectionVars false
variable [Globs]
theorem acalls_pure {P : Program} {f : FuncId} {args : List Value} {r : Value} (hc : callable P f = true) (hr : r.oneCell' = true) (h : ∀ w, Calls P f args.toArray w fun e w' => e = .returned r ∧ w' = w) : ACalls P f (args.map fun v => .p (.v v)) [] (.p (.v r)) [] := by
  refine ⟨hc, fun w F m vals hl hv hS => ?_⟩
  have : vals = args := List.ext_getElem (by simpa using hl) fun i h1 h2 => (hv i vals[i] (.p (.v args[i])) (List.getElem?_eq_getElem h1) (by simp [h2])).pv
  subst this
  refine (h w).mono fun e w' ⟨h1, h2⟩ => ?_
  subst h2
  exact ⟨r, m, h1, RepV.of_v hr, hS, Fr.refl _ _, fun b o _ ho => ho, fun id _ => HOk.refl _ _⟩

def I (n : Int) : PV := .v (.int .i64 n)
def B (n : Int) : PV := .v (.int .u8 n)
/-- A branch of a condition. -/
structure Br where
  keys : List Int
  lock : List Int
  after : Int
  older : Int
  deriving Inhabited, DecidableEq
def brPV (b : Br) : PV := .st [.sl 1 (b.keys.map I), .ints .u8 32 b.lock, .v (.int .i64 b.after), .v (.int .i64 b.older)]
def condPV (c : List Br) : PV := .st [.sl 35 (c.map brPV)]
end Go.Av
end

section
/- Abstract values: laws of single operations that the rules of the simp set do not take: slices of what is owned, rows made by append, clear, copy; walks that stop at one operation; what is owned let go as data. -/
namespace Go.Av
open Go
set_option linter.unusedVariables false
set_option linter.unusedSimpArgs false
set_option linter.unusedSectionVars false
variable [Globs]

/-! ### regions, stopped ahead of an operation -/
section
variable {P : Program} {ds : List (Option Tmp)} {n : Nat} {T : List (Nat × AV)} {H : List (Nat × AObj)} {K : LS → Prop} {L : List Oper}
theorem bOps_append : ∀ (l1 l2 : List Oper) (s : LS), bOps P ds (l1 ++ l2) s K = bOps P ds l1 s (fun s' => bOps P ds l2 s' K)
  | [], l2, s => rfl
  | o :: l1, l2, s => by
    have ih := bOps_append l1 l2
    simp only [List.cons_append, bOps, ih]
theorem aOps_append (ops : Array Oper) : ∀ (l1 l2 : List Oper) (s : LS), aOps P ops (l1 ++ l2) s K = aOps P ops l1 s (fun s' => aOps P ops l2 s' K)
  | [], l2, s => rfl
  | o :: l1, l2, s => by
    have ih := aOps_append ops l1 l2
    simp only [List.cons_append, aOps, ih]
theorem aw_reg_a {l : List Oper} {id : Nat} {y : Code} {Q : Exit → LS → Prop} {s : LS} (h : ∀ K : LS → Prop, (∀ s, AWp P y Q s → K s) → aOps P l.toArray l s K) : AWp P (.seq (.region id l.toArray false) y) Q s :=
  aw_seq fun K hK => aw_region (h K hK)
theorem aw_reg_a_last {l : List Oper} {id : Nat} {Q : Exit → LS → Prop} {s : LS} (h : ∀ K : LS → Prop, (∀ s, Q .normal s → K s) → aOps P l.toArray l s K) : AWp P (.region id l.toArray false) Q s :=
  aw_region (h _ fun _ h => h)
/-- So many operations by the rules, the rest later. -/
theorem a_split (k : Nat) {l : List Oper} (hds : L.map (·.dst) = ds) (h : ∀ K' : LS → Prop, (∀ s1, aOps P L.toArray (l.drop k) s1 K → K' s1) → bOps P ds (l.take k) ⟨n, T, H⟩ K') : aOps P L.toArray l ⟨n, T, H⟩ K := by
  subst hds
  have e : l = l.take k ++ l.drop k := (List.take_append_drop k l).symm
  rw [e, aOps_append]
  exact bOps_sound (L := L) (by simp) _ _ (h _ fun _ h => h)
theorem a_rest {l : List Oper} (hds : L.map (·.dst) = ds) (h : bOps P ds l ⟨n, T, H⟩ K) : aOps P L.toArray l ⟨n, T, H⟩ K := by
  subst hds
  exact bOps_sound (L := L) (by simp) _ _ h
theorem a_cust {ops : Array Oper} {d : Option Tmp} {op : Op} {ty : TypeId} {pos : String} {after : Array Edge} {r : List Oper} {v : AV} {tc md : List (Nat × AObj)} {nw : List Nat} (h : Cust P d op (LS.ev ⟨n, T, H⟩) ⟨v, tc, md, nw⟩)
    (ht : touchOk H tc) (hn : newOk T H nw) (hd : dOk n d) (hK : aOps P ops r ⟨n, putT d v T, modL md H⟩ K) : aOps P ops (⟨d, op, ty, pos, after, none⟩ :: r) ⟨n, T, H⟩ K := by
  simp only [aOps]
  refine .inr (.inr ⟨_, .inr h, touchOk_spec ht, newOk_spec (n := n) hn, hd, ?_⟩)
  simpa only [app_eq] using hK
/-- The same in a region whose order is open. -/
theorem aLex_append {ops : Array Oper} {K : List Eff → LS → Prop} : ∀ (l1 l2 : List Oper) (s : LS) (es : List Eff), aLex P ops (l1 ++ l2) s es K = aLex P ops l1 s es (fun es' s' => aLex P ops l2 s' es' K)
  | [], l2, s, es => rfl
  | o :: l1, l2, s, es => by
    have ih := aLex_append (ops := ops) (K := K) l1 l2
    simp only [List.cons_append, aLex, ih]
/-- What is left of a region whose order is open, behind the effects that the feet tell of. -/
def lexR (P : Program) (L r : List Oper) (fs : List Foot) (ns : List Nat) (J : List Foot → List Nat → LS → Prop) (s : LS) : Prop :=
  ∀ (es : List Eff) (K : List Eff → LS → Prop), (∀ es s fs ns, fs.reverse = es.map Eff.foot → (∀ e ∈ es, ∀ d ∈ e.new, d ∈ ns) → J fs ns s → K es s) → fs.reverse = es.map Eff.foot → (∀ e ∈ es, ∀ d ∈ e.new, d ∈ ns) → aLex P L.toArray r s es K
theorem lexR_sound {l : List Oper} {fs : List Foot} {ns : List Nat} {J : List Foot → List Nat → LS → Prop} {s : LS} (hds : L.map (·.dst) = ds) (h : cOps P ds l s fs ns J) : lexR P L l fs ns J s := by
  subst hds
  intro es K hK h1 h2
  exact cOps_sound (L := L) (by simp) hK l s fs ns es h1 h2 h
theorem lexR_split (k : Nat) {l : List Oper} {fs : List Foot} {ns : List Nat} {J : List Foot → List Nat → LS → Prop} {s : LS} (hds : L.map (·.dst) = ds)
    (h : ∀ J' : List Foot → List Nat → LS → Prop, (∀ fs ns s, lexR P L (l.drop k) fs ns J s → J' fs ns s) → cOps P ds (l.take k) s fs ns J') : lexR P L l fs ns J s := by
  subst hds
  intro es K hK h1 h2
  have e : l = l.take k ++ l.drop k := (List.take_append_drop k l).symm
  rw [e, aLex_append]
  exact cOps_sound (L := L) (by simp) (J := fun fs ns s => lexR P L (l.drop k) fs ns J s) (fun es s fs ns g1 g2 g3 => g3 es K hK g1 g2) _ _ _ _ _ h1 h2 (h _ fun _ _ _ h => h)
theorem lexR_cust {d : Option Tmp} {op : Op} {ty : TypeId} {pos : String} {after : Array Edge} {r : List Oper} {v : AV} {tc md : List (Nat × AObj)} {nw : List Nat} {fs : List Foot} {ns : List Nat} {J : List Foot → List Nat → LS → Prop} (h : Cust P d op (LS.ev ⟨n, T, H⟩) ⟨v, tc, md, nw⟩)
    (ht : touchOk H tc) (hd : dOk n d) (hK : lexR P L r (Foot.of v tc md nw :: fs) (nw ++ ns) J ⟨n, putT d v T, modL md H⟩) : lexR P L (⟨d, op, ty, pos, after, none⟩ :: r) fs ns J ⟨n, T, H⟩ := by
  intro es K hK' h1 h2
  simp only [aLex]
  refine ⟨_, .inr h, touchOk_spec ht, hd, ?_⟩
  rw [app_eq]
  exact hK _ K hK' (by simp [h1]; rfl) fun e' he' d hd => by
    rcases List.mem_append.1 he' with h3 | h3
    · exact List.mem_append.2 (.inr (h2 e' h3 d hd))
    · simp at h3; subst h3; exact List.mem_append.2 (.inl hd)
theorem aw_draw_a {l : List Oper} {id : Nat} {y : Code} {Q : Exit → LS → Prop} (bs : List Nat) (hB : drawB P l.toArray = true) (hbs : befs l = bs)
    (h : ∀ J : List Foot → List Nat → LS → Prop, (∀ fs ns s, drawEnd bs T H fs ns → AWp P y Q s → J fs ns s) → lexR P l l [] [] J ⟨n, T, H⟩) : AWp P (.seq (.region id l.toArray true) y) Q ⟨n, T, H⟩ :=
  aw_seq fun K hK => by
    refine aw_region_draw bs hB (by simpa using hbs) ?_
    have := h (fun fs ns s => drawEnd bs T H fs ns ∧ K s) (fun fs ns s h1 h2 => ⟨h1, hK s h2⟩)
    exact this [] _ (fun es s fs ns h1 h2 ⟨⟨h3, h4⟩, h5⟩ => by
      rw [h1] at h3
      exact ⟨h3, fun e he d hd => newOk_spec (n := n) h4 d (h2 e he d hd), h5⟩) rfl (by simp)
theorem aw_draw_a_last {l : List Oper} {id : Nat} {Q : Exit → LS → Prop} (bs : List Nat) (hB : drawB P l.toArray = true) (hbs : befs l = bs)
    (h : ∀ J : List Foot → List Nat → LS → Prop, (∀ fs ns s, drawEnd bs T H fs ns → Q .normal s → J fs ns s) → lexR P l l [] [] J ⟨n, T, H⟩) : AWp P (.region id l.toArray true) Q ⟨n, T, H⟩ := by
  refine aw_region_draw bs hB (by simpa using hbs) ?_
  have := h (fun fs ns s => drawEnd bs T H fs ns ∧ Q .normal s) (fun fs ns s h1 h2 => ⟨h1, h2⟩)
  exact this [] _ (fun es s fs ns h1 h2 ⟨⟨h3, h4⟩, h5⟩ => by
      rw [h1] at h3
      exact ⟨h3, fun e he d hd => newOk_spec (n := n) h4 d (h2 e he d hd), h5⟩) rfl (by simp)
end

/-! ### what is owned, let go as data -/
theorem imp_freeze {n id k : Nat} {ty : TypeId} {c : AV} {xs : List PV} {T T' : List (Nat × AV)} {H H' : List (Nat × AObj)} (hH : lkH H id = .row ty c) (he : c.elems = some xs) (hu : c.shape.uni k)
    (hT : ∀ p ∈ T', AV.le (lkT T p.1) p.2 ∨ ∃ m, m ≤ xs.length ∧ lkT T p.1 = .osl id [] k m ∧ p.2 = .p (.sl k (xs.take m))) (hH' : ∀ p ∈ H', lkH H p.1 = p.2) (hd : lkH H' id = .dead) : LS.imp ⟨n, T, H⟩ ⟨n, T', H'⟩ := fun w F m tmps hs => by
  have hdr : ∀ j, lkH H' j = lkH H j ∨ lkH H' j = .dead := fun j => by
    have : ∀ l : List (Nat × AObj), (∀ p ∈ l, lkH H p.1 = p.2) → lkH l j = lkH H j ∨ lkH l j = .dead := by
      intro l
      induction l with
      | nil => intro _; exact .inr rfl
      | cons p l ih =>
        intro h
        simp only [lkH]
        split
        · rename_i hi; subst hi; exact .inl (h p (by simp)).symm
        · exact ih fun q hq => h q (by simp [hq])
    exact this H' hH'
  have hS : SimH w F m (lkH H) := hs.heap
  have hH2 := hS.drop hdr
  have hHOk : ∀ j, HOk (lkH H j) (m j) (lkH H' j) (m j) := fun j => by
    rcases hdr j with e | e <;> rw [e]
    · exact HOk.refl _ _
    · exact HOk.dead _ _ _
  have howj : ∀ j b o, OwnBy m (lkH H') j b o → OwnBy m (lkH H) j b o := fun j b o h => by
    rcases hdr j with e | e
    · exact ⟨by rw [← e]; exact h.1, h.2⟩
    · exact absurd e h.1
  have hev : Ev w m (lkH H) w m (lkH H') := ⟨Fr.refl _ _, fun b o _ ⟨j, h⟩ => ⟨j, howj _ _ _ h⟩, fun j _ => hHOk j⟩
  refine ⟨m, ⟨hs.size, fun i => ?_, hH2⟩, hev⟩
  have h0 : RepV w (St.av F m (lkH H)) m (lkH H) (tmps.getD i undef) (lkT T i) := hs.tmp i
  show RepV w (St.av F m (lkH H')) m (lkH H') (tmps.getD i undef) (lkT T' i)
  have hfind : ∀ l : List (Nat × AV), (∀ p ∈ l, AV.le (lkT T p.1) p.2 ∨ ∃ m, m ≤ xs.length ∧ lkT T p.1 = .osl id [] k m ∧ p.2 = .p (.sl k (xs.take m))) →
      lkT l i = .any 1 ∨ AV.le (lkT T i) (lkT l i) ∨ ∃ m, m ≤ xs.length ∧ lkT T i = .osl id [] k m ∧ lkT l i = .p (.sl k (xs.take m)) := by
    intro l
    induction l with
    | nil => intro _; exact .inl rfl
    | cons p l ih =>
      intro h
      simp only [lkT]
      split
      · rename_i hi; subst hi; exact .inr (h p (by simp))
      · exact ih fun q hq => h q (by simp [hq])
  rcases hfind T' hT with e | e | ⟨q, hq, e1, e2⟩
  · rw [e]; exact .any
  · exact (h0.move (hev.keeps F) fun j _ => hHOk j).le e
  · rw [e1] at h0
    rw [e2]
    obtain ⟨cap, hcap, hcnt, hx⟩ := h0.osl_val hH
    obtain ⟨cs, vs, g1, g2, g3, g4, g5⟩ := hS.row hH
    obtain ⟨g, p1, p2, p3⟩ := g5.elems he hu
    rw [hx]
    have hlen : (xs.take q).length = q := by simp; omega
    have hcell : ∀ i j y, i < xs.length → (g i)[j]? = some y → w.cell? ⟨(m id).b, c.shape.off [] + i * k + j, none⟩ = some y ∧ c.shape.off [] + i * k + j < vs.length := fun i j y hi hj => by
      have h1 := p3 i j y hi hj
      have h2 := (List.getElem?_eq_some_iff.1 h1).1
      refine ⟨?_, by simpa [Shape.off] using h2⟩
      have := row_cells g1 g4 _ _ h1
      simpa [Shape.off] using this
    refine .one (.p (.sl g hlen hcap (fun i hi => p1 i (by omega)) (fun i e hi => ?_) fun i hi j y hj => ?_)) rfl
    · have hi' := (List.getElem?_eq_some_iff.1 hi).1
      rw [hlen] at hi'
      rw [List.getElem?_take, if_pos hi'] at hi
      exact (p2 i e hi).move (hev.keeps F)
    · obtain ⟨q1, q2⟩ := hcell i j y (by omega) hj
      refine ⟨q1, fun ha => ?_⟩
      have hown : OwnBy m (lkH H) id (m id).b (c.shape.off [] + i * k + j) := ⟨by rw [hH]; simp, rfl, by omega, by omega⟩
      rcases ha with ha | ⟨j', ha⟩
      · exact (hS.far _ _ ha).2 ⟨id, hown⟩
      · have hj' : j' ≠ id := fun e => by subst e; exact ha.1 hd
        exact hS.disj j' id _ _ hj' (howj _ _ _ ha) hown

/-! ### operations -/
section
variable {P : Program} {ev : Operand → AV} {d : Option Tmp}

theorem RepV.oss_val {w : World} {A : Avoid} {m : Nat → Reg} {H : Nat → AObj} {x : Value} {id so k n : Nat} {path : List Nat} {ty : TypeId} {c : AV} (h : RepV w A m H x (.oss id path so k n)) (hh : H id = .row ty c) :
    ∃ cap, n ≤ cap ∧ x = .slice (some ⟨(m id).b, c.shape.off path + so * k, none⟩) n cap := by
  have h1 := h.single rfl rfl
  generalize hv : [x] = vs at h1
  cases h1 with
  | oss h2 h3 => injection hv with hv; subst hv; exact h3 ty c hh

theorem row_inj {ty ty' : TypeId} {c c' : AV} {o : AObj} (h : o = .row ty c) (h' : o = .row ty' c') : c = c' := by
  rw [h] at h'
  injection h'

/-- A slice of what is owned, from its begin on. -/
theorem cust_front {t el ty : TypeId} {x h : Operand} {id sz len : Nat} {path : List Nat} {c : AV} {ag : Bool} {k : IntKind} {b : Int} (hx : ev x = .osl id path sz len) (hh : ev h = .p (.v (.int k b))) (h0 : 0 ≤ b) (hb : b.toNat ≤ len)
    (he : elOf P t = some el) (hl : ldOf P el = some (ag, sz)) : Cust P d (.slice t x none (some h) none) ev ⟨.osl id path sz b.toNat, [(id, .row ty c)], [], []⟩ := fun o s ho hd hev ht hn hdd => by
  subst hd
  have hH : s.H id = .row ty c := ht (id, .row ty c) (by simp)
  have e1 : s.ev x = ev x := hev x (by simp [Op.operands])
  have e2 : s.ev h = ev h := hev h (by simp [Op.operands])
  refine Does.pure hdd fun w F m a hs => ?_
  have h1 := hs.eval x
  have h2 := hs.eval h
  rw [e1, hx] at h1
  rw [e2, hh] at h2
  have h2 := h2.pv
  obtain ⟨cap, hc, hcn, h3⟩ := h1.osl_val hH
  refine ⟨.slice (some ⟨(m id).b, c.shape.off path, none⟩) b.toNat cap, ?_, .one (.osl rfl fun e' c' hc' => ?_) rfl⟩
  · rw [execOp_slice a ho, Sem.run_bind, run_sliceAt_slice he, h3]
    have := run_slice_two (P := P) (n := len) (c := cap) (l := 0) (h := b.toNat) (ad := some ⟨(m id).b, c.shape.off path, none⟩) he hl w none (some (a.eval h)) (.inl ⟨rfl, rfl⟩) (.inr ⟨k, b, by rw [h2], h0, rfl⟩) (by omega) hb hc
    simp only [Option.map_none, Option.map_some]
    rw [this]
    simp [Addr.add]
  · obtain rfl := row_inj hH hc'
    exact ⟨cap, by omega, hcn, rfl⟩

/-- A slice of what is owned, up to its end. -/
theorem cust_back {t el ty : TypeId} {x l : Operand} {id sz len : Nat} {path : List Nat} {c : AV} {ag : Bool} {k : IntKind} {b : Int} (hx : ev x = .osl id path sz len) (hl' : ev l = .p (.v (.int k b))) (h0 : 0 ≤ b) (hb : b.toNat ≤ len)
    (hcn : b.toNat < Shape.cnt path c.shape) (he : elOf P t = some el) (hl : ldOf P el = some (ag, sz)) : Cust P d (.slice t x (some l) none none) ev ⟨.oss id path b.toNat sz (len - b.toNat), [(id, .row ty c)], [], []⟩ := fun o s ho hd hev ht hn hdd => by
  subst hd
  have hH : s.H id = .row ty c := ht (id, .row ty c) (by simp)
  have e1 : s.ev x = ev x := hev x (by simp [Op.operands])
  have e2 : s.ev l = ev l := hev l (by simp [Op.operands])
  refine Does.pure hdd fun w F m a hs => ?_
  have h1 := hs.eval x
  have h2 := hs.eval l
  rw [e1, hx] at h1
  rw [e2, hl'] at h2
  have h2 := h2.pv
  obtain ⟨cap, hc, hcn', h3⟩ := h1.osl_val hH
  refine ⟨.slice (some ⟨(m id).b, c.shape.off path + b.toNat * sz, none⟩) (len - b.toNat) (cap - b.toNat), ?_, .one (.oss rfl fun e' c' hc' => ?_) rfl⟩
  · rw [execOp_slice a ho, Sem.run_bind, run_sliceAt_slice he, h3]
    have := run_slice_two (P := P) (n := len) (c := cap) (l := b.toNat) (h := len) (ad := some ⟨(m id).b, c.shape.off path, none⟩) he hl w (some (a.eval l)) none (.inr ⟨k, b, by rw [h2], h0, rfl⟩) (.inl ⟨rfl, rfl⟩) hb (Nat.le_refl _) hc
    simp only [Option.map_none, Option.map_some]
    rw [this, if_neg (by omega)]
    simp [Addr.add_lit]
  · obtain rfl := row_inj hH hc'
    exact ⟨_, by omega, rfl⟩

/-- An element's place in a slice that begins within what is owned. -/
theorem cust_index {t el ty : TypeId} {x i : Operand} {id so sz len : Nat} {path : List Nat} {c c' : AV} {ag : Bool} {k : IntKind} {b : Int} (hx : ev x = .oss id path so sz len) (hi : ev i = .p (.v (.int k b))) (h0 : 0 ≤ b) (hb : b.toNat < len)
    (hg : c.get? path = some c') (hu : c'.shape.uni sz) (hc : so + b.toNat < c'.cnt) (he : elOf P t = some el) (hl : ldOf P el = some (ag, sz)) : Cust P d (.indexAddr t x i) ev ⟨.ptr id (path ++ [so + b.toNat]), [(id, .row ty c)], [], []⟩ := fun o s ho hd hev ht hn hdd => by
  subst hd
  have hH : s.H id = .row ty c := ht (id, .row ty c) (by simp)
  have e1 : s.ev x = ev x := hev x (by simp [Op.operands])
  have e2 : s.ev i = ev i := hev i (by simp [Op.operands])
  refine Does.pure hdd fun w F m a hs => ?_
  have h1 := hs.eval x
  have h2 := hs.eval i
  rw [e1, hx] at h1
  rw [e2, hi] at h2
  have h2 := h2.pv
  obtain ⟨cap, _, h3⟩ := h1.oss_val hH
  have e3 := Shape.off_append path (i := so + b.toNat) trivial rfl hg
  rw [Shape.uni_off hu (AV.cnt_shape hc)] at e3
  refine ⟨.pointer (some ⟨(m id).b, c.shape.off (path ++ [so + b.toNat]), none⟩), ?_, RepV.of_ptr hH⟩
  have := run_indexAt_slice he hl w (m id).b (c.shape.off path + so * sz) len cap k h0 hb
  simp only [execOp, ho, h3, h2, Sem.run_bind, this, Result.andThen_ok, e3, Nat.add_mul, Nat.add_assoc]
  rfl

theorem cust_len {t el ty : TypeId} {c0 : Call} {x : Operand} {id so sz len : Nat} {path : List Nat} {c : AV} (hc : c0.callee = .builtin .len) (ha : c0.args = #[x]) (hta : c0.argTypes = #[t]) (hx : ev x = .oss id path so sz len) (he : elOf P t = some el) :
    Cust P d (.call c0) ev ⟨.p (.v (.int .i64 len)), [(id, .row ty c)], [], []⟩ := fun o s ho hd hev ht hn hdd => by
  subst hd
  have hH : s.H id = .row ty c := ht (id, .row ty c) (by simp)
  have e1 : s.ev x = ev x := hev x (by simp [Op.operands, Call.operands, ha])
  refine does_len_of ho hc ha hdd hta he fun w F m a hs => ?_
  have h1 := hs.eval x
  rw [e1, hx] at h1
  obtain ⟨cap, _, h3⟩ := h1.oss_val hH
  exact ⟨_, _, h3⟩

/-- Numbers laid over a row of numbers of its own. -/
theorem write_ints {w : World} {F : Avoid} {m : Nat → Reg} {s : St} {tmps : Array Value} (hs : Sim w F m s tmps) {id so N : Nat} {ty : TypeId} {c c' : AV} {path : List Nat} {kd : IntKind} {l us : List Int} (hH : s.H id = .row ty c) (hg : c.get? path = some (.p (.ints kd N l)))
    (hset : c.set? path (.p (.ints kd N (l.take so ++ us ++ l.drop (so + us.length)))) = some c') (hle : so + us.length ≤ l.length) :
    ∃ w', (storeCells ⟨(m id).b, c.shape.off path + so, none⟩ (us.map (.int kd))).run P w = .ok () w' ∧ Sim w' F m { s with H := upd s.H id (.row ty c') } tmps ∧ Ev w m s.H w' m (upd s.H id (.row ty c')) := by
  obtain ⟨cs, vs, h1, h2, h3, h4, h5⟩ := hs.heap.row hH
  obtain ⟨a1, us0, b1, rfl, hl1, hr1, hs1⟩ := h5.at_ path hg
  obtain ⟨rfl, hN⟩ := hr1.p_inv.ints_at
  have hnew : RepC w (St.av F m s.H) m s.H ((l.take so ++ us ++ l.drop (so + us.length)).map (Value.int kd)) (.p (.ints kd N (l.take so ++ us ++ l.drop (so + us.length)))) := .p (.ints (by simp; omega))
  obtain ⟨h6, h7⟩ := hs1 _ _ _ hnew rfl hset
  have hlen : a1.length + l.length + b1.length ≤ cs.size := by have := congrArg List.length h4; simp at this; omega
  have hst := run_storeCells_at (P := P) (m id).b (c.shape.off path + so) ty (us.map (.int kd)) 0 cs w h1 (by rw [← hl1]; simp; omega) (by simp [Value.oneCell'])
  simp only [Nat.add_zero] at hst
  have key : (cs.toList.take (c.shape.off path + so) ++ us.map (Value.int kd) ++ cs.toList.drop (c.shape.off path + so + us.length)).take (a1 ++ l.map (Value.int kd) ++ b1).length = a1 ++ (l.take so ++ us ++ l.drop (so + us.length)).map (Value.int kd) ++ b1 := by
    rw [← hl1]
    have e0 : cs.toList = (a1 ++ l.map (Value.int kd) ++ b1) ++ cs.toList.drop (a1 ++ l.map (Value.int kd) ++ b1).length := by
      have := (List.take_append_drop (a1 ++ l.map (Value.int kd) ++ b1).length cs.toList).symm
      rwa [h4] at this
    have e1 : cs.toList.take (a1.length + so) = a1 ++ (l.take so).map (Value.int kd) := by
      rw [e0]
      simp only [List.append_assoc]
      rw [List.take_append, List.take_of_length_le (by omega), Nat.add_sub_cancel_left, List.take_append_of_le_length (by simp; omega), List.map_take]
    have e2 : cs.toList.drop (a1.length + so + us.length) = (l.drop (so + us.length)).map (Value.int kd) ++ (b1 ++ cs.toList.drop (a1 ++ l.map (Value.int kd) ++ b1).length) := by
      conv => lhs; rw [e0]
      simp only [List.append_assoc]
      rw [List.drop_append, List.drop_of_length_le (by omega), List.nil_append, show a1.length + so + us.length - a1.length = so + us.length by omega, List.drop_append_of_le_length (by simp; omega), List.map_drop]
    rw [e1, e2]
    have e3 : a1 ++ (l.take so).map (Value.int kd) ++ us.map (Value.int kd) ++ ((l.drop (so + us.length)).map (Value.int kd) ++ (b1 ++ cs.toList.drop (a1 ++ l.map (Value.int kd) ++ b1).length)) =
        (a1 ++ (l.take so ++ us ++ l.drop (so + us.length)).map (Value.int kd) ++ b1) ++ cs.toList.drop (a1 ++ l.map (Value.int kd) ++ b1).length := by simp
    rw [e3]
    refine List.take_left' ?_
    simp
    omega
  have hset := hs.set hH h1 (cs' := (cs.toList.take (c.shape.off path + so) ++ us.map (Value.int kd) ++ cs.toList.drop (c.shape.off path + so + us.length)).toArray) (c' := c')
    (by rw [← hl1]; simp; omega) (fun i hi => ?_) h7 (by
      rw [h3]
      simp only
      rw [key]
      exact h6)
  · refine ⟨_, ?_, hset.1, hset.2⟩
    rw [hst]
    simp
  · rw [h3] at hi
    simp only [List.length_append, List.length_map] at hi
    have hlt : (cs.toList.take (c.shape.off path + so)).length = c.shape.off path + so := by rw [← hl1]; simp; omega
    simp only [List.getElem?_toArray]
    rw [List.getElem?_append_right (by simp only [List.length_append, List.length_map, hlt]; omega)]
    simp only [List.length_append, List.length_map, hlt, List.getElem?_drop]
    rw [show c.shape.off path + so + us.length + (i - (c.shape.off path + so + us.length)) = i by omega]
    simp
end
end Go.Av
namespace Go.Av
open Go
set_option linter.unusedVariables false
set_option linter.unusedSimpArgs false
set_option linter.unusedSectionVars false
variable [Globs]
section
variable {P : Program} {ev : Operand → AV} {d : Option Tmp}

theorem zeroCells_ints (kd : IntKind) (n : Nat) : (Builtin.zeroCells #[.int kd 0] n).toList = (List.replicate n (0 : Int)).map (Value.int kd) := by
  simp only [Builtin.zeroCells]
  refine List.ext_getElem? fun i => ?_
  by_cases hi : i < n
  · simp [hi, Nat.mod_one]
  · rw [List.getElem?_eq_none (by simp; omega), List.getElem?_eq_none (by simp; omega)]

/-- The rest of what is owned, made zero. -/
theorem cust_clear {t el ty : TypeId} {c0 : Call} {x : Operand} {id so len N : Nat} {path : List Nat} {c c' : AV} {kd : IntKind} {l : List Int} (hc : c0.callee = .builtin .clear) (ha : c0.args = #[x]) (hta : c0.argTypes = #[t]) (hx : ev x = .oss id path so 1 len)
    (hg : c.get? path = some (.p (.ints kd N l))) (hset : c.set? path (.p (.ints kd N (l.take so ++ List.replicate len 0 ++ l.drop (so + len)))) = some c') (hle : so + len ≤ l.length) (h0 : 0 < len) (he : elOf P t = some el) (hz : zeroPV P el = some (.v (.int kd 0))) (hzc : zeroChk P el) :
    Cust P d (.call c0) ev ⟨.any 1, [(id, .row ty c)], [(id, .row ty c')], []⟩ := fun o s ho hd hev ht hn hdd => by
  subst hd
  have hH : s.H id = .row ty c := ht (id, .row ty c) (by simp)
  have e1 : s.ev x = ev x := hev x (by simp [Op.operands, Call.operands, ha])
  refine Does.value hdd fun w F m a hs => ?_
  have h1 := hs.eval x
  rw [e1, hx] at h1
  obtain ⟨cap, _, h3⟩ := h1.oss_val hH
  rw [Nat.mul_one] at h3
  obtain ⟨w', g1, g2, g3⟩ := write_ints (P := P) hs (us := List.replicate len 0) hH hg (by simpa using hset) (by simpa using hle)
  obtain ⟨z, i, v, k1, k2, k3, k4, _⟩ := hzc
  rw [hz] at k1
  injection k1 with k1
  subst k1
  have hzv : ∀ w : World, (zeroValue el).run P w = .ok v w := fun w => by
    simp [zeroValue, typeInfo, k2, k3]
  have hvc : v.cells = #[.int kd 0] := Array.ext' (by rw [k4]; rfl)
  obtain ⟨q, rfl⟩ : ∃ q, len = q + 1 := ⟨len - 1, by omega⟩
  refine ⟨.tuple #[], w', m, ?_, g2, .any, g3⟩
  have hzc : (Builtin.zeroCells v.cells (q + 1)).toList = (List.replicate (q + 1) (0 : Int)).map (Value.int kd) := by rw [hvc]; exact zeroCells_ints kd _
  simp [execOp, ho, resolve, hc, ha, invoke, builtin, Builtin.clear_, hta, h3, run_underlying (el_run he), hzv]
  rw [hzc, g1]
  rfl

/-- What a slice of what is owned holds, appended to nothing: a row of the function's own. -/
theorem cust_append_row {t el : TypeId} {c0 : Call} {x y : Operand} {by' dd : Nat} {kd : IntKind} {l : List Int} {tc : List (Nat × AObj)} {ab : Option Addr} (hc : c0.callee = .builtin .append) (ha : c0.args = #[x, y]) (hta : c0.argTypes = #[t, t])
    (T : AppTy P t el 1 by') (hx : ev x = .p (.v (.slice ab 0 0))) (hlt : dd < 1000) (hsrc : srcOf (ev y) 1 (l.map fun n => PV.v (.int kd n)) tc) (hb : l.length * by' ≤ 140737488355328) (h0 : 0 < l.length) :
    Cust P (some dd) (.call c0) ev ⟨.osl dd [] 1 l.length, tc, [(dd, .row el (.p (.ints kd l.length l)))], [dd]⟩ := fun o s ho hd hev ht hn hdd => by
  have e1 : s.ev x = ev x := hev x (by simp [Op.operands, Call.operands, ha])
  have e2 : s.ev y = ev y := hev y (by simp [Op.operands, Call.operands, ha])
  have := does_append_row (o := o) (s := s) (tt := tc) ho hc ha hta (by rw [hd]; exact hdd) T (by rw [e1]; exact hx) hlt (hn dd (by simp)).1 (hn dd (by simp)).2 (by rw [e2]; exact hsrc) ht hb h0
  exact this
/-- Bytes made into a string. -/
theorem cust_str {src dst el : TypeId} {x : Operand} {l : List UInt8} {xs : List PV} (hx : ev x = .p (.sl 1 xs)) (hxs : xs = u8s l) (ht : isStr P dst = true) (he : elOf P src = some el) (hk : ikOf P el = some .u8) :
    Cust P d (.convert src dst x) ev ⟨.p (.v (.string ⟨l.toArray⟩)), [], [], []⟩ := fun o s ho hd hev _ _ hdd => by
  subst hd
  have e1 : s.ev x = ev x := hev x (by simp [Op.operands])
  exact does_convert_str ho hdd ht he hk (by rw [e1, hx]; exact ⟨rfl, rfl, rfl⟩) hxs
theorem u8s_ex : ∀ {l : List Int}, (∀ n ∈ l, 0 ≤ n ∧ n < 256) → ∃ b : List UInt8, l.map (fun n => PV.v (.int .u8 n)) = u8s b
  | [], _ => ⟨[], rfl⟩
  | n :: l, h => by
    obtain ⟨b, e⟩ := u8s_ex (l := l) fun x hx => h x (by simp [hx])
    have hn := h n (by simp)
    refine ⟨UInt8.ofNat n.toNat :: b, ?_⟩
    simp only [List.map_cons, u8s] at e ⊢
    rw [e]
    congr 3
    simp [UInt8.toNat_ofNat']
    omega
end
end Go.Av
end

section
/- Abstract values: '==' of rows of numbers, and of structs of a row of numbers and a number. -/
namespace Go.Av
open Go
set_option linter.unusedVariables false
set_option linter.unusedSimpArgs false
set_option linter.unusedSectionVars false
variable [Globs]
section
variable {P : Program}

/-- What is asked of a row of numbers' type. -/
structure RowTy (P : Program) (t el : TypeId) (n : Nat) (k : IntKind) : Prop where
  ar : arOf P t = some (n, el)
  ik : ikOf P el = some k
  ld : ldOf P el = some (false, 1)

theorem ik_run {t : TypeId} {k : IntKind} (h : ikOf P t = some k) : P.underlying t = some (.int k) := by unfold ikOf at h; split at h <;> simp_all
theorem RowTy.info {t el : TypeId} {n : Nat} {k : IntKind} (h : RowTy P t el n k) : ∃ i, P.info? el = some i ∧ P.cellsOf el = 1 := by
  have := h.ld
  unfold ldOf at this
  cases hu : P.underlying el with
  | none => simp [hu] at this
  | some d =>
    cases hi : P.info? el with
    | none => simp [hu, hi] at this
    | some i =>
      simp [hu, hi] at this
      exact ⟨i, rfl, by simp [Program.cellsOf, hi, this.2]⟩
theorem run_part_int {el : TypeId} (hl : ldOf P el = some (false, 1)) (w : World) {cs : Array Value} {i : Nat} {v : Value} (h : cs[i]? = some v) : (part el cs i).run P w = .ok v w := by
  simp only [part, Sem.run_bind, (ldOf_run hl w).1, Result.andThen_ok, Bool.false_eq_true, if_false, h]
  rfl
theorem eqItems_ints {el : TypeId} {k : IntKind} (hik : ikOf P el = some k) (hl : ldOf P el = some (false, 1)) (d : Nat) (w : World) (l l' : List Int) : ∀ is : List Nat, (∀ i ∈ is, i < l.length ∧ i < l'.length) →
    (Op.eqItems (d + 1) el 1 (l.map (Value.int k)).toArray (l'.map (Value.int k)).toArray is).run P w = .ok (is.all fun i => ix l i == ix l' i) w
  | [], _ => rfl
  | i :: is, h => by
    obtain ⟨h1, h2⟩ := h i (by simp)
    have ih := eqItems_ints hik hl d w l l' is fun j hj => h j (by simp [hj])
    have e1 : (part el (l.map (Value.int k)).toArray (i * 1)).run P w = .ok (.int k (ix l i)) w := run_part_int hl w (by simp [ix_some h1])
    have e2 : (part el (l'.map (Value.int k)).toArray (i * 1)).run P w = .ok (.int k (ix l' i)) w := run_part_int hl w (by simp [ix_some h2])
    simp only [Op.eqItems, Sem.run_bind, e1, e2, Result.andThen_ok, run_equalIn_int w d el k k _ _ (ik_run hik), List.all_cons]
    cases hb : (ix l i == ix l' i) with
    | false => simp
    | true => simpa using ih
theorem all_ix {l l' : List Int} (h : l.length = l'.length) : ((List.range l.length).all fun i => ix l i == ix l' i) = (l == l') := by
  rw [Bool.eq_iff_iff]
  simp only [List.all_eq_true, List.mem_range, beq_iff_eq]
  constructor
  · intro hall
    refine List.ext_getElem h fun i h1 h2 => ?_
    have := hall i h1
    rwa [ix_get h1, ix_get h2] at this
  · rintro rfl i _; rfl
theorem equalIn_ints {t el : TypeId} {n : Nat} {k : IntKind} (hT : RowTy P t el n k) (d : Nat) (w : World) {l l' : List Int} (h1 : l.length = n) (h2 : l'.length = n) :
    (Op.equalIn (d + 2) t (.agg (l.map (Value.int k)).toArray) (.agg (l'.map (Value.int k)).toArray)).run P w = .ok (l == l') w := by
  obtain ⟨i, hi, hc⟩ := hT.info
  rw [run_equalIn_array w (d + 1) _ _ (ar_run hT.ar) hi, hc, eqItems_ints hT.ik hT.ld d w l l' _ (fun i hi => by simp at hi; omega), ← all_ix (by omega), h1]
theorem guard_off {t el : TypeId} {n : Nat} {k : IntKind} (hT : RowTy P t el n k) : P.eqGuardType P.depth t = false := by
  unfold Program.depth
  generalize 2 * (P.types.size + Made.depth) = m
  unfold Program.eqGuardType
  rw [ar_run hT.ar]
  show Program.eqGuardType P (m + 1) el = false
  unfold Program.eqGuardType
  rw [ik_run hT.ik]
theorem ints_agg {w : World} {A : Avoid} {n : Nat} {k : IntKind} {l : List Int} {v : Value} (h : if (AV.p (.ints k n l)).isAgg then ∃ vs : List Value, v = .agg vs.toArray ∧ RepP w A vs (.ints k n l) else RepP w A [v] (.ints k n l)) : v = .agg (l.map (Value.int k)).toArray ∧ l.length = n := by
  simp only [AV.isAgg, if_true] at h
  obtain ⟨vs, rfl, h⟩ := h
  obtain ⟨rfl, h2⟩ := h.ints_at
  exact ⟨rfl, h2⟩
theorem binRun_eql_ints {t el : TypeId} {n : Nat} {k : IntKind} (hT : RowTy P t el n k) (x y : Operand) (l l' : List Int) : BinRun P .eql t x y (.ints k n l) (.ints k n l') (.bool (l == l')) := by
  refine ⟨rfl, fun w A vx vy hx hy => ?_⟩
  obtain ⟨rfl, h1⟩ := ints_agg hx
  obtain ⟨rfl, h2⟩ := ints_agg hy
  rw [Sem.run_bind, run_eqGuard_agg w .eql t x y _ _ (guard_off hT), Result.andThen_ok, run_eql_struct, equalIn_ints hT 9998 w h1 h2]
  rfl
theorem binRun_neq_ints {t el : TypeId} {n : Nat} {k : IntKind} (hT : RowTy P t el n k) (x y : Operand) (l l' : List Int) : BinRun P .neq t x y (.ints k n l) (.ints k n l') (.bool (l != l')) := by
  refine ⟨rfl, fun w A vx vy hx hy => ?_⟩
  obtain ⟨rfl, h1⟩ := ints_agg hx
  obtain ⟨rfl, h2⟩ := ints_agg hy
  rw [Sem.run_bind, run_eqGuard_agg w .neq t x y _ _ (guard_off hT), Result.andThen_ok, run_neq_struct, equalIn_ints hT 9998 w h1 h2]
  rfl

/-- What is asked of a point's type: a sum and a number. -/
structure PtTy (P : Program) (t ht el it : TypeId) : Prop where
  row : RowTy P ht el 32 .u8
  hu : P.underlying t = some (.struct (P.fieldsOf t))
  held : P.stoodInHeld t = false
  fs : ∃ f0 f1 : Field, (P.fieldsOf t).toList = [f0, f1] ∧ f0.name ≠ "_" ∧ f1.name ≠ "_" ∧ f0.offset = 0 ∧ f1.offset = 32 ∧ f0.type = ht ∧ f1.type = it
  hl : ldOf P ht = some (true, 32)
  ik : ikOf P it = some .i64
  il : ldOf P it = some (false, 1)
  gd : P.eqGuardType P.depth t = false
def ptT (h : List Int) (n : Int) : PV := .st [.ints .u8 32 h, .v (.int .i64 n)]
theorem pt_agg {w : World} {A : Avoid} {h : List Int} {n : Int} {v : Value} (hv : if (AV.p (ptT h n)).isAgg then ∃ vs : List Value, v = .agg vs.toArray ∧ RepP w A vs (ptT h n) else RepP w A [v] (ptT h n)) : v = .agg (h.map (Value.int .u8) ++ [Value.int .i64 n]).toArray ∧ h.length = 32 := by
  simp only [ptT, AV.isAgg, if_true] at hv
  obtain ⟨vs, rfl, hv⟩ := hv
  obtain ⟨us, ws, rfl, h1, h2⟩ := hv.st_inv
  obtain ⟨rfl, h3⟩ := h1.ints_at
  obtain ⟨us2, ws2, rfl, h4, h5⟩ := h2.st_inv
  have h6 := h4.v_inv
  subst h6
  cases h5
  exact ⟨by simp, h3⟩
theorem equalIn_pt {t ht el it : TypeId} (hT : PtTy P t ht el it) (d : Nat) (w : World) {h h' : List Int} {n n' : Int} (h1 : h.length = 32) (h2 : h'.length = 32) :
    (Op.equalIn (d + 3) t (.agg (h.map (Value.int .u8) ++ [Value.int .i64 n]).toArray) (.agg (h'.map (Value.int .u8) ++ [Value.int .i64 n']).toArray)).run P w = .ok (h == h' && n == n') w := by
  obtain ⟨f0, f1, e0, e1, e2, e3, e4, e5, e6⟩ := hT.fs
  rw [run_equalIn_struct w (d + 2) t _ _ hT.hu hT.held, e0]
  have pa : ∀ (h : List Int) (n : Int), h.length = 32 → (part ht (h.map (Value.int .u8) ++ [Value.int .i64 n]).toArray 0).run P w = .ok (.agg (h.map (Value.int .u8)).toArray) w := fun h n hh => by
    obtain ⟨ha, hz⟩ := ldOf_run hT.hl w
    simp only [part, Sem.run_bind, ha, hz, Result.andThen_ok, if_true, Sem.run_pure]
    congr 2
    apply Array.ext'
    simp [hh]
  have pb : ∀ (h : List Int) (n : Int), h.length = 32 → (part it (h.map (Value.int .u8) ++ [Value.int .i64 n]).toArray 32).run P w = .ok (.int .i64 n) w := fun h n hh => run_part_int hT.il w (by simp [hh])
  simp only [Op.eqFields, e1, e2, e3, e4, e5, e6, ne_eq, not_false_eq_true, if_true, Sem.run_bind, pa h n h1, pa h' n' h2, pb h n h1, pb h' n' h2, Result.andThen_ok, equalIn_ints hT.row d w h1 h2, run_equalIn_int w (d + 1) it .i64 .i64 n n' (ik_run hT.ik), Sem.run_pure]
  cases hb : (h == h') with
  | false => simp
  | true =>
    simp only [Bool.not_true, Bool.false_eq_true, if_false, Sem.run_bind, pb h n h1, pb h' n' h2, Result.andThen_ok, run_equalIn_int w (d + 1) it .i64 .i64 n n' (ik_run hT.ik), Sem.run_pure, Bool.true_and]
    cases hc : (n == n') with
    | false => simp
    | true => simp
theorem binRun_eql_pt {t ht el it : TypeId} (hT : PtTy P t ht el it) (x y : Operand) (h h' : List Int) (n n' : Int) : BinRun P .eql t x y (ptT h n) (ptT h' n') (.bool (h == h' && n == n')) := by
  refine ⟨rfl, fun w A vx vy hx hy => ?_⟩
  obtain ⟨rfl, h1⟩ := pt_agg hx
  obtain ⟨rfl, h2⟩ := pt_agg hy
  rw [Sem.run_bind, run_eqGuard_agg w .eql t x y _ _ hT.gd, Result.andThen_ok, run_eql_struct, equalIn_pt hT 9997 w h1 h2]
  rfl
theorem binRun_neq_pt {t ht el it : TypeId} (hT : PtTy P t ht el it) (x y : Operand) (h h' : List Int) (n n' : Int) : BinRun P .neq t x y (ptT h n) (ptT h' n') (.bool (!(h == h' && n == n'))) := by
  refine ⟨rfl, fun w A vx vy hx hy => ?_⟩
  obtain ⟨rfl, h1⟩ := pt_agg hx
  obtain ⟨rfl, h2⟩ := pt_agg hy
  rw [Sem.run_bind, run_eqGuard_agg w .neq t x y _ _ hT.gd, Result.andThen_ok, run_neq_struct, equalIn_pt hT 9997 w h1 h2]
  rfl
end
end Go.Av
end

section
/- Abstract values: a contract under other numbers. -/
namespace Go.Av
open Go
set_option linter.unusedVariables false
set_option linter.unusedSimpArgs false
set_option linter.unusedSectionVars false
variable [Globs]

mutual
def AV.ren (ρ : Nat → Nat) : AV → AV
  | .any n => .any n
  | .p x => .p x
  | .st fs => .st (AV.renL ρ fs)
  | .ptr id path => .ptr (ρ id) path
  | .pp x => .pp x
  | .slt tok k es => .slt (ρ tok) k es
  | .osl id path k n => .osl (ρ id) path k n
  | .oss id path so k n => .oss (ρ id) path so k n
  | .fn f caps => .fn f (AV.renL ρ caps)
  | .ifc t x => .ifc t (AV.ren ρ x)
  | .tup vs => .tup (AV.renL ρ vs)
def AV.renL (ρ : Nat → Nat) : List AV → List AV
  | [] => []
  | f :: fs => AV.ren ρ f :: AV.renL ρ fs
end
theorem AV.renL_map (ρ : Nat → Nat) (l : List AV) : AV.renL ρ l = l.map (AV.ren ρ) := by
  induction l with
  | nil => rfl
  | cons a l ih => simp [AV.renL, ih]
mutual
theorem AV.ren_shape (ρ : Nat → Nat) : ∀ x : AV, (x.ren ρ).shape = x.shape
  | .any _ => rfl
  | .p _ => rfl
  | .st fs => by simp only [AV.ren, AV.shape, AV.renL_shape ρ fs]
  | .ptr _ _ => rfl
  | .pp _ => rfl
  | .slt _ _ _ => rfl
  | .osl _ _ _ _ => rfl
  | .oss _ _ _ _ _ => rfl
  | .fn _ _ => rfl
  | .ifc _ _ => rfl
  | .tup _ => rfl
theorem AV.renL_shape (ρ : Nat → Nat) : ∀ l : List AV, AV.shapeL (AV.renL ρ l) = AV.shapeL l
  | [] => rfl
  | f :: fs => by simp only [AV.renL, AV.shapeL, AV.ren_shape ρ f, AV.renL_shape ρ fs]
end
mutual
theorem AV.ren_ren {ρ σ : Nat → Nat} (h : ∀ i, σ (ρ i) = i) : ∀ x : AV, (x.ren ρ).ren σ = x
  | .any _ => rfl
  | .p _ => rfl
  | .st fs => by simp only [AV.ren, AV.renL_ren h fs]
  | .ptr _ _ => by simp only [AV.ren, h]
  | .pp _ => rfl
  | .slt _ _ _ => by simp only [AV.ren, h]
  | .osl _ _ _ _ => by simp only [AV.ren, h]
  | .oss _ _ _ _ _ => by simp only [AV.ren, h]
  | .fn _ caps => by simp only [AV.ren, AV.renL_ren h caps]
  | .ifc _ x => by simp only [AV.ren, AV.ren_ren h x]
  | .tup vs => by simp only [AV.ren, AV.renL_ren h vs]
theorem AV.renL_ren {ρ σ : Nat → Nat} (h : ∀ i, σ (ρ i) = i) : ∀ l : List AV, AV.renL σ (AV.renL ρ l) = l
  | [] => rfl
  | f :: fs => by simp only [AV.renL, AV.ren_ren h f, AV.renL_ren h fs]
end
theorem AV.ren_isAgg (ρ : Nat → Nat) (x : AV) : (x.ren ρ).isAgg = x.isAgg := by
  cases x with
  | p x => cases x <;> rfl
  | _ => rfl

def AObj.ren (ρ : Nat → Nat) : AObj → AObj
  | .row e c => .row e (c.ren ρ)
  | o => o
theorem AObj.ren_row {ρ : Nat → Nat} {o : AObj} {e : TypeId} {c : AV} (h : o.ren ρ = .row e c) : ∃ c0, o = .row e c0 ∧ c = c0.ren ρ := by
  cases o with
  | row e' c' => simp only [AObj.ren] at h; injection h with h1 h2; subst h1; exact ⟨c', rfl, h2.symm⟩
  | dead => cases h
  | tail n => cases h
theorem AObj.ren_tail {ρ : Nat → Nat} {o : AObj} {n : Nat} (h : o.ren ρ = .tail n) : o = .tail n := by
  cases o with
  | row e' c' => cases h
  | dead => cases h
  | tail n => exact h
theorem AObj.ren_dead {ρ : Nat → Nat} {o : AObj} : o.ren ρ = .dead ↔ o = .dead := by
  cases o <;> simp [AObj.ren]
theorem AObj.ren_ren {ρ σ : Nat → Nat} (h : ∀ i, σ (ρ i) = i) (o : AObj) : (o.ren ρ).ren σ = o := by
  cases o with
  | row e c => simp only [AObj.ren, AV.ren_ren h]
  | _ => rfl

def renM (σ : Nat → Nat) (m : Nat → Reg) : Nat → Reg := fun i => m (σ i)
def renO (ρ σ : Nat → Nat) (H : Nat → AObj) : Nat → AObj := fun i => (H (σ i)).ren ρ

section
variable {ρ σ : Nat → Nat} {w : World} {A F : Avoid} {m : Nat → Reg} {H : Nat → AObj}

theorem RepC.ren (h1 : ∀ i, σ (ρ i) = i) {vs : List Value} {x : AV} (h : RepC w A m H vs x) : RepC w A (renM σ m) (renO ρ σ H) vs (x.ren ρ) := by
  induction h with
  | any hl h1 => exact .any hl h1
  | p h => exact .p h
  | stn => exact .stn
  | stc _ _ ih1 ih2 => exact .stc ih1 ih2
  | @ptr x id path hx h =>
    refine .ptr hx fun e c hc => ?_
    simp only [renO, renM, h1] at hc ⊢
    obtain ⟨c0, g1, rfl⟩ := AObj.ren_row hc
    rw [AV.ren_shape]
    exact h e c0 g1
  | pp h hc => exact .pp h hc
  | @slt x tok k es h ht =>
    refine .slt h fun n hn => ?_
    simp only [renO, renM, h1] at hn ⊢
    exact ht n (AObj.ren_tail hn)
  | @osl x id path k n hx h =>
    refine .osl hx fun e c hc => ?_
    simp only [renO, renM, h1] at hc ⊢
    obtain ⟨c0, g1, rfl⟩ := AObj.ren_row hc
    rw [AV.ren_shape]
    exact h e c0 g1
  | @oss x id path st k n hx h =>
    refine .oss hx fun e c hc => ?_
    simp only [renO, renM, h1] at hc ⊢
    obtain ⟨c0, g1, rfl⟩ := AObj.ren_row hc
    rw [AV.ren_shape]
    exact h e c0 g1
  | @fn f vals caps hl hs h ih =>
    simp only [AV.ren]
    rw [AV.renL_map]
    refine .fn (by simpa using hl) (fun i a ha => ?_) fun i a x ha hx => ?_
    · simp only [List.getElem?_map] at ha
      cases hc : caps[i]? with
      | none => rw [hc] at ha; cases ha
      | some a0 => rw [hc] at ha; simp at ha; subst ha; rw [AV.ren_isAgg]; exact hs i a0 hc
    · simp only [List.getElem?_map] at ha
      cases hc : caps[i]? with
      | none => rw [hc] at ha; cases ha
      | some a0 => rw [hc] at ha; simp at ha; subst ha; exact ih i a0 x hc hx
  | ifc h ih => exact .ifc ih

theorem RepV.ren (h1 : ∀ i, σ (ρ i) = i) {v : Value} {x : AV} (h : RepV w A m H v x) : RepV w A (renM σ m) (renO ρ σ H) v (x.ren ρ) := by
  induction h with
  | any => exact .any
  | one h hs => exact .one (h.ren h1) (by rw [AV.ren_isAgg]; exact hs)
  | agg h hs => exact .agg (h.ren h1) (by rw [AV.ren_isAgg]; exact hs)
  | @tup xs vs hl h ih =>
    simp only [AV.ren]
    rw [AV.renL_map]
    refine .tup (by simpa using hl) fun i x a hx ha => ?_
    simp only [List.getElem?_map] at ha
    cases hc : vs[i]? with
    | none => rw [hc] at ha; cases ha
    | some a0 => rw [hc] at ha; simp at ha; subst ha; exact ih i x a0 hx hc

theorem ownBy_ren {i b o : Nat} : OwnBy (renM σ m) (renO ρ σ H) i b o ↔ OwnBy m H (σ i) b o := by
  simp only [OwnBy, renM, renO, ne_eq, AObj.ren_dead]
theorem own_ren (h1 : ∀ i, σ (ρ i) = i) : Own (renM σ m) (renO ρ σ H) = Own m H := by
  funext b o
  refine propext ⟨fun ⟨i, h⟩ => ⟨σ i, ownBy_ren.1 h⟩, fun ⟨i, h⟩ => ⟨ρ i, ownBy_ren.2 (by rw [h1]; exact h)⟩⟩
theorem av_ren (h1 : ∀ i, σ (ρ i) = i) : St.av F (renM σ m) (renO ρ σ H) = St.av F m H := by
  show Avoid.or F (Own _ _) = Avoid.or F (Own _ _)
  rw [own_ren h1]

theorem SimH.ren (h1 : ∀ i, σ (ρ i) = i) (h2 : ∀ i, ρ (σ i) = i) (h : SimH w F m H) : SimH w F (renM σ m) (renO ρ σ H) := by
  refine ⟨fun i => ?_, fun i j b o hij g1 g2 => ?_, fun b o hf => ?_, by rw [av_ren h1]; exact h.glob⟩
  · have := h.obj (σ i)
    rw [av_ren h1]
    unfold ObjOk at this ⊢
    simp only [renO, renM]
    cases hH : H (σ i) with
    | dead => exact trivial
    | tail n => rw [hH] at this; exact this
    | row e c =>
      rw [hH] at this
      obtain ⟨cs, vs, k1, k2, k3, k4, k5⟩ := this
      exact ⟨cs, vs, k1, k2, k3, k4, k5.ren h1⟩
  · exact h.disj (σ i) (σ j) b o (fun e => hij (by rw [← h2 i, ← h2 j, e])) (ownBy_ren.1 g1) (ownBy_ren.1 g2)
  · rw [own_ren h1]
    exact h.far b o hf

theorem HOk.ren {o o' : AObj} {r r' : Reg} (h : HOk o r o' r') : HOk (o.ren ρ) r (o'.ren ρ) r' := by
  cases o' with
  | dead => exact trivial
  | row e c' =>
    obtain ⟨c, rfl, hs, hr⟩ := h
    exact ⟨c.ren ρ, rfl, by rw [AV.ren_shape, AV.ren_shape]; exact hs, hr⟩
  | tail n' =>
    obtain ⟨n, rfl, hn, hr⟩ := h
    exact ⟨n, rfl, hn, hr⟩

def renH (ρ : Nat → Nat) (l : List (Nat × AObj)) : List (Nat × AObj) := l.map fun p => (ρ p.1, p.2.ren ρ)
theorem mods_ren (h1 : ∀ i, σ (ρ i) = i) (h2 : ∀ i, ρ (σ i) = i) : ∀ (l : List (Nat × AObj)) (H : Nat → AObj), mods (renO ρ σ H) (renH ρ l) = renO ρ σ (mods H l)
  | [], H => rfl
  | p :: l, H => by
    have : upd (renO ρ σ H) (ρ p.1) (p.2.ren ρ) = renO ρ σ (upd H p.1 p.2) := by
      funext i
      by_cases hi : i = ρ p.1
      · subst hi
        rw [upd_same]
        simp only [renO, h1, upd_same]
      · rw [upd_ne _ _ hi]
        simp only [renO]
        rw [upd_ne _ _ (fun e => hi (by rw [← e, h2]))]
    have e : mods (renO ρ σ H) (renH ρ (p :: l)) = mods (upd (renO ρ σ H) (ρ p.1) (p.2.ren ρ)) (renH ρ l) := rfl
    rw [e, this, mods_ren h1 h2 l]
    rfl
theorem hOf_ren (h1 : ∀ i, σ (ρ i) = i) (h2 : ∀ i, ρ (σ i) = i) (l : List (Nat × AObj)) : hOf (renH ρ l) = renO ρ σ (hOf l) := by
  have := mods_ren h1 h2 l (fun _ => .dead)
  exact this
theorem renO_back (h2 : ∀ i, σ (ρ i) = i) (H : Nat → AObj) : renO σ ρ (renO ρ σ H) = H := by
  funext i
  simp only [renO, h2, AObj.ren_ren h2]

/-- A contract under other numbers. -/
theorem ACalls.ren {P : Program} {f : FuncId} {args : List AV} {hc : List (Nat × AObj)} {r : AV} {hr : List (Nat × AObj)} (ρ σ : Nat → Nat) (h1 : ∀ i, σ (ρ i) = i) (h2 : ∀ i, ρ (σ i) = i) (h : ACalls P f args hc r hr) :
    ACalls P f (args.map (AV.ren ρ)) (renH ρ hc) (r.ren ρ) (renH ρ hr) := by
  refine ⟨h.1, fun w F m vals hl hv hS => ?_⟩
  rw [hOf_ren h1 h2] at hv hS ⊢
  rw [hOf_ren h1 h2]
  have e0 : renM σ (renM ρ m) = m := by funext i; simp only [renM, h2]
  have hS0 : SimH w F (renM ρ m) (hOf hc) := by
    have := hS.ren (ρ := σ) (σ := ρ) h2 h1
    rwa [renO_back h1] at this
  have hv0 : ∀ (i : Nat) (x : Value) (a : AV), vals[i]? = some x → args[i]? = some a → RepV w (St.av F (renM ρ m) (hOf hc)) (renM ρ m) (hOf hc) x a := fun i x a hx ha => by
    have := (hv i x (a.ren ρ) hx (by simp [ha])).ren (ρ := σ) (σ := ρ) h2
    rw [renO_back h1, AV.ren_ren h1] at this
    have e1 : St.av F m (renO ρ σ (hOf hc)) = St.av F (renM ρ m) (hOf hc) := by
      have := av_ren (F := F) (m := renM ρ m) (H := hOf hc) h1
      rw [e0] at this
      exact this
    rwa [e1] at this
  refine (h.2 w F (renM ρ m) vals (by simpa using hl) hv0 hS0).mono fun ed w' ⟨x, m', g1, g2, g3, g4, g5, g6⟩ => ?_
  have e2 : Own m (renO ρ σ (hOf hc)) = Own (renM ρ m) (hOf hc) := by
    have := own_ren (m := renM ρ m) (H := hOf hc) h1
    rw [e0] at this
    exact this
  refine ⟨x, renM σ m', g1, ?_, g3.ren h1 h2, ?_, ?_, fun id hid => ?_⟩
  · rw [av_ren h1]; exact g2.ren h1
  · rw [e2]; exact g4
  · rw [own_ren h1, e2]; exact g5
  · have := g6 (σ id) (fun e => hid (by simp only [renO, e, AObj.ren]))
    have := this.ren (ρ := ρ)
    simpa only [renO, renM, h2] using this
end

/-- Two numbers exchanged. -/
def swp (a b : Nat) : Nat → Nat := fun i => if i = a then b else if i = b then a else i
theorem swp_swp (a b i : Nat) : swp a b (swp a b i) = i := by
  unfold swp
  split
  · rename_i h; subst h; split
    · rename_i h; exact h
    · simp
  · split
    · rename_i h1 h2; subst h2; simp
    · rename_i h1 h2; simp [h1, h2]
theorem ACalls.swap {P : Program} {f : FuncId} {args : List AV} {hc : List (Nat × AObj)} {r : AV} {hr : List (Nat × AObj)} (a b : Nat) (h : ACalls P f args hc r hr) :
    ACalls P f (args.map (AV.ren (swp a b))) (renH (swp a b) hc) (r.ren (swp a b)) (renH (swp a b) hr) := h.ren (swp a b) (swp a b) (swp_swp a b) (swp_swp a b)
end Go.Av
end

section
/- Abstract values: leaves of walks with several results. -/
namespace Go.Av
open Go
set_option linter.unusedVariables false
set_option linter.unusedSimpArgs false
set_option linter.unusedSectionVars false
variable [Globs] {P : Program} {n : Nat} {T : List (Nat × AV)} {H hr : List (Nat × AObj)}
/-- A slice that grows from nothing: nil at first, then a slice of the function's own. -/
def acc (tok k : Nat) : Nat → List PV → AV
  | 0, _ => .p (.v (.slice none 0 0))
  | _ + 1, l => .slt tok k l
def accH (tok : Nat) : Nat → Nat → List (Nat × AObj) → List (Nat × AObj)
  | 0, _, r => r
  | _ + 1, n, r => (tok, .tail n) :: r
@[go_sem] theorem acc_0 (tok k : Nat) (l : List PV) : acc tok k 0 l = .p (.v (.slice none 0 0)) := rfl
@[go_sem] theorem acc_s (tok k i : Nat) (l : List PV) : acc tok k (i + 1) l = .slt tok k l := rfl
@[go_sem] theorem accH_0 (tok n : Nat) (r : List (Nat × AObj)) : accH tok 0 n r = r := rfl
@[go_sem] theorem accH_s (tok i n : Nat) (r : List (Nat × AObj)) : accH tok (i + 1) n r = (tok, .tail n) :: r := rfl
theorem le_slt_eq {t k : Nat} {a b : List PV} (h : a = b) : AV.le (.slt t k a) (.slt t k b) := by subst h; exact .inl rfl
theorem le_slt_sl {t k : Nat} {a b : List PV} (h : a = b) : AV.le (.slt t k a) (.p (.sl k b)) := by subst h; exact .inr (.inl ⟨_, rfl, rfl⟩)
theorem le_nil1 {k : Nat} : AV.le (.p (.st [.v (.slice none 0 0)])) (.p (.st [.sl k []])) :=
  .inr (.inr (.inr (.inr ⟨.st [.v (.slice none 0 0)], .st [.sl k []], rfl, .st rfl fun i f g hf hg => by
    match i, hf, hg with
    | 0, hf, hg => cases hf; cases hg; exact .nil _
    | _ + 1, hf, _ => simp at hf, rfl⟩)))
theorem ret_tmp3 {t u v : Tmp} {x y z : AV} (h1 : AV.le (lkT T t) x) (h2 : AV.le (lkT T u) y) (h3 : AV.le (lkT T v) z) (h4 : lessH H hr) : fnQ P [.tmp t, .tmp u, .tmp v] (.tup [x, y, z]) hr .ret ⟨n, T, H⟩ :=
  ⟨⟨[_, _, _], [x, y, z], ⟨_, _, rfl, rfl, _, _, rfl, rfl, _, _, rfl, rfl, rfl⟩, rfl, h1, h2, h3, trivial⟩, lessH_spec h4⟩
theorem ret_cell_tmp {a id ty : Nat} {t : TypeId} {u : Tmp} {path : List Nat} {c x r y : AV} (h1 : lkT T a = .ptr id path) (h2 : lkH H id = .row ty c) (h3 : c.get? path = some x) (h4 : x.cellish = true ∧ ldOf P t = some (x.isAgg, x.size)) (h5 : AV.le x r)
    (h6 : AV.le (lkT T u) y) (h7 : lessH H hr) : fnQ P [.cell a t, .tmp u] (.tup [r, y]) hr .ret ⟨n, T, H⟩ := by
  have hr1 : resVal P ⟨n, T, H⟩ (.cell a t) x := by
    show match lkT T a with
      | .ptr id path => ∃ ty c, lkH H id = .row ty c ∧ c.get? path = some x ∧ x.cellish = true ∧ ldOf P t = some (x.isAgg, x.size)
      | _ => False
    rw [h1]
    exact ⟨ty, c, h2, h3, h4⟩
  exact ⟨⟨[_, _], [r, y], ⟨_, _, rfl, hr1, _, _, rfl, rfl, rfl⟩, rfl, h5, h6, trivial⟩, lessH_spec h7⟩
end Go.Av
end

section
/- Abstract values: copy of numbers into what is owned. -/
namespace Go.Av
open Go
set_option linter.unusedVariables false
set_option linter.unusedSimpArgs false
set_option linter.unusedSectionVars false
variable [Globs] {P : Program} {d : Option Nat} {ev : Operand → AV}
theorem cust_copy {t t' el ty : TypeId} {c0 : Call} {x y : Operand} {id so len N : Nat} {path : List Nat} {c c' : AV} {kd : IntKind} {ag : Bool} {l us : List Int} {tc : List (Nat × AObj)} (hc : c0.callee = .builtin .copy) (ha : c0.args = #[x, y]) (hta : c0.argTypes = #[t, t'])
    (hx : (ev x = .osl id path 1 len ∧ so = 0) ∨ ev x = .oss id path so 1 len) (hsrc : srcOf (ev y) 1 (us.map fun n => PV.v (.int kd n)) tc) (hg : c.get? path = some (.p (.ints kd N l)))
    (hset : c.set? path (.p (.ints kd N (l.take so ++ us.take len ++ l.drop (so + (us.take len).length)))) = some c') (hle : so + (us.take len).length ≤ l.length) (he : elOf P t = some el) (hl : ldOf P el = some (ag, 1)) :
    Cust P d (.call c0) ev ⟨.p (.v (.int .i64 (us.take len).length)), (id, .row ty c) :: tc, [(id, .row ty c')], []⟩ := fun o s ho hd hev ht hn hdd => by
  subst hd
  have hH : s.H id = .row ty c := ht (id, .row ty c) (by simp)
  have e1 : s.ev x = ev x := hev x (by simp [Op.operands, Call.operands, ha])
  have e2 : s.ev y = ev y := hev y (by simp [Op.operands, Call.operands, ha])
  refine Does.value hdd fun w F m a hs => ?_
  have h1 := hs.eval x
  rw [e1] at h1
  obtain ⟨cap, h3⟩ : ∃ cap, a.eval x = .slice (some ⟨(m id).b, c.shape.off path + so, none⟩) len cap := by
    rcases hx with ⟨hx, rfl⟩ | hx
    · rw [hx] at h1
      obtain ⟨cap, _, _, h3⟩ := h1.osl_val hH
      exact ⟨cap, h3⟩
    · rw [hx] at h1
      obtain ⟨cap, _, h3⟩ := h1.oss_val hH
      rw [Nat.mul_one] at h3
      exact ⟨cap, h3⟩
  obtain ⟨g, S⟩ := src_of hs (x := y) (by rw [e2]; exact hsrc) fun p hp => ht p (List.mem_cons_of_mem _ hp)
  obtain ⟨⟨ad, cc, h4, h5⟩, h6, h7⟩ := S
  rw [List.length_map] at h4 h5
  have hgi : ∀ i (hi : i < us.length), g i = [.int kd us[i]] := fun i hi => (h7 i _ (by rw [List.getElem?_map, List.getElem?_eq_getElem hi]; rfl)).v_inv
  obtain ⟨w', g1, g2, g3⟩ := write_ints (P := P) hs (us := us.take len) hH hg hset hle
  have hmin : Nat.min us.length len = (us.take len).length := by rw [List.length_take, Nat.min_comm]
  have hfc : (Builtin.firstCells 1 (us.take len).length (.slice ad us.length cc)).run P w = .ok ((us.take len).map (Value.int kd)).toArray w := by
    cases ad with
    | none =>
      have h0 : us.length = 0 := by
        rcases Nat.eq_zero_or_pos us.length with h0 | h0
        · exact h0
        · obtain ⟨b, off, e, _⟩ := h5 h0
          cases e
      have : us = [] := List.eq_nil_of_length_eq_zero h0
      subst this
      simp [Builtin.firstCells]
    | some ad =>
      refine run_firstCells_some (P := P) w 1 _ ad _ _ _ (by simp) fun j v hj => ?_
      have hjl : j < (us.take len).length := by have := (List.getElem?_eq_some_iff.1 hj).1; simpa using this
      have hju : j < us.length := by rw [List.length_take] at hjl; omega
      obtain ⟨b, off, e, h8⟩ := h5 (by omega)
      injection e with e
      subst e
      have h9 : v = .int kd us[j] := by
        have := (List.getElem?_eq_some_iff.1 hj).2
        simp at this
        exact this.symm
      subst h9
      have := h8 j 0 (.int kd us[j]) hju (by rw [hgi j hju]; rfl)
      rw [Addr.add_lit]
      simpa using this
  refine ⟨.int .i64 (us.take len).length, w', m, ?_, g2, .of_v rfl, g3⟩
  simp only [execOp, ho, resolve, hc, Sem.run_bind, Sem.run_pure, Result.andThen_ok, ha, invoke, builtin, hta]
  simp [Builtin.copy_, h3, h4, run_underlying (el_run he), Builtin.lenOf, (ldOf_run hl w).2, hfc, g1, hmin, goInt, -List.length_take, -List.map_take]
end Go.Av
end

section
/- Abstract values: what a call's arguments read as, as trees; from a contract to what a statement's row asks of the call. No program in sight. -/
namespace Go.Av
open Go
set_option linter.unusedVariables false
set_option linter.unusedSimpArgs false
set_option linter.unusedSectionVars false
variable [Globs]

/-- How the data of a type lie. -/
inductive Pl where
  | int (k : IntKind)
  | bool
  | str
  | ints (k : IntKind) (n : Nat)
  | arr (n : Nat) (e : Pl)
  | st (fs : List Pl)
  | sl (sz : Nat) (e : Pl)

inductive Fits : Pl → PV → Prop
  | int {k n} (h : (Lit.int k n).wf = true) : Fits (.int k) (.v (.int k n))
  | bool (b : Bool) : Fits .bool (.v (.bool b))
  | str (s : ByteArray) (h : s.size ≤ 140737488351232) : Fits .str (.v (.string s))
  | ints {k n} {l : List Int} (hl : l.length = n) (h : ∀ x ∈ l, (Lit.int k x).wf = true) : Fits (.ints k n) (.ints k n l)
  | arr {n e} {es : List PV} (hl : es.length = n) (h : ∀ x ∈ es, Fits e x) : Fits (.arr n e) (.st es)
  | stn : Fits (.st []) (.st [])
  | stc {p ps x xs} (h : Fits p x) (t : Fits (.st ps) (.st xs)) : Fits (.st (p :: ps)) (.st (x :: xs))
  | sl {sz e} {es : List PV} (h : ∀ x ∈ es, Fits e x) (hl : es.length ≤ 140737488351232) : Fits (.sl sz e) (.sl sz es)

def fieldsB (P : Program) (r : TypeId → Pl → Bool) : Nat → List Field → List Pl → Option Nat
  | off, [], [] => some off
  | off, f :: fs, p :: ps => if f.offset = off ∧ r f.type p = true then fieldsB P r (off + P.cellsOf f.type) fs ps else none
  | _, _, _ => none
/-- A type's data lie so: asked of the kernel. -/
def plB (P : Program) : Nat → TypeId → Pl → Bool
  | 0, _, _ => false
  | n + 1, t, pl => match pl, P.underlying t with
    | .int k, some (.int k') => k = k'
    | .bool, some .bool => true
    | .str, some .string => true
    | .ints k m, some (.array m' e) => m = m' && P.cellsOf e == 1 && plB P n e (.int k) && P.cellsOf t == m
    | .arr m p, some (.array m' e) => m = m' && plB P n e p && P.cellsOf t == m * P.cellsOf e
    | .sl sz p, some (.slice e) => decide (0 < sz) && decide (0 < P.bytesOf e) && sz == P.cellsOf e && plB P n e p
    | .st ps, some (.struct fs) => fieldsB P (plB P n) 0 fs.toList ps == some (P.cellsOf t)
    | _, _ => false

section
variable {H : Type} {enc : TypeId × Value → H} {P : Program} {w : World} {A : Avoid}

theorem exists_list {β : Type} [Inhabited β] {n : Nat} {q : Nat → β → Prop} (h : ∀ i, i < n → ∃ b, q i b) : ∃ f : Nat → β, ∀ i, i < n → q i (f i) := by
  classical
  refine ⟨fun i => if hi : i < n then Classical.choose (h i hi) else default, fun i hi => ?_⟩
  simp only [dif_pos hi]
  exact Classical.choose_spec (h i hi)

theorem RepP.st_flat {k : Nat} : ∀ {n : Nat} {cs : List Value} (f : Nat → PV), (∀ i, i < n → RepP w A ((cs.drop (i * k)).take k) (f i)) → cs.length = n * k → RepP w A cs (.st ((List.range n).map f))
  | 0, cs, f, h, hl => by
    have : cs = [] := List.eq_nil_of_length_eq_zero (by simpa using hl)
    subst this
    exact .stn
  | n + 1, cs, f, h, hl => by
    have h0 := h 0 (by omega)
    simp only [Nat.zero_mul, List.drop_zero] at h0
    have := RepP.st_flat (k := k) (n := n) (cs := cs.drop k) (fun i => f (i + 1)) (fun i hi => by
      have := h (i + 1) (by omega)
      rw [List.drop_drop, show k + i * k = (i + 1) * k by rw [Nat.succ_mul]; omega]
      exact this) (by rw [List.length_drop, hl, Nat.succ_mul]; omega)
    have e : cs = cs.take k ++ cs.drop k := (List.take_append_drop k cs).symm
    rw [e, List.range_succ_eq_map, List.map_cons, List.map_map]
    exact .stc h0 this

theorem rep_fields {r : TypeId → Pl → Bool} {tr : TypeId → List Value → Option (DataW H × List MemPlace)}
    (ih : ∀ t pl cs x, r t pl = true → tr t cs = some x → ∃ y, RepP w A cs y ∧ Fits pl y) :
    ∀ (fs : List Field) (ps : List Pl) (off total : Nat) (cs : List Value), fieldsB P r off fs ps = some total → cs.length = total →
      (∀ f ∈ fs, ∃ x, tr f.type ((cs.drop f.offset).take (P.cellsOf f.type)) = some x) → off ≤ total ∧ ∃ ys, RepP w A (cs.drop off) (.st ys) ∧ Fits (.st ps) (.st ys)
  | [], [], off, total, cs, h, hl, _ => by
    simp only [fieldsB, Option.some.injEq] at h
    subst h
    exact ⟨Nat.le_refl _, [], by rw [List.drop_eq_nil_of_le (by omega)]; exact .stn, .stn⟩
  | [], _ :: _, off, total, cs, h, _, _ => by simp [fieldsB] at h
  | _ :: _, [], off, total, cs, h, _, _ => by simp [fieldsB] at h
  | f :: fs, p :: ps, off, total, cs, h, hl, hx => by
    simp only [fieldsB] at h
    split at h
    · rename_i hc
      obtain ⟨h1, h2⟩ := hc
      obtain ⟨x, hx0⟩ := hx f (by simp)
      obtain ⟨y, g1, g2⟩ := ih _ _ _ _ h2 hx0
      obtain ⟨k1, ys, k2, k3⟩ := rep_fields ih fs ps _ total cs h hl fun f' hf => hx f' (by simp [hf])
      refine ⟨by omega, y :: ys, ?_, .stc g2 k3⟩
      rw [h1] at g1
      have e : cs.drop off = (cs.drop off).take (P.cellsOf f.type) ++ cs.drop (off + P.cellsOf f.type) := by
        rw [← List.drop_drop, List.take_append_drop]
      rw [e]
      exact .stc g1 k2
    · cases h

/-- What is read weighs no more than may be. -/
def okW {H : Type} (P : Program) (t : TypeId) (d : DataW H) : Bool := (d.weights P t).all fun n => decide (n ≤ reachBytes)
theorem weightsAll_mem {e : TypeId} {z : Nat} {d : DataW H} : ∀ {l : List (DataW H)}, d ∈ l → z ∈ d.weights P e → z ∈ DataW.weightsAll P e l
  | [], h, _ => by cases h
  | a :: l, h, hz => by
    simp only [DataW.weightsAll, List.mem_append]
    rcases List.mem_cons.1 h with e | e
    · subst e; exact .inl hz
    · exact .inr (weightsAll_mem e hz)
theorem weightsEach_mem {z : Nat} {t : TypeId} {d : DataW H} : ∀ {ts : List TypeId} {l : List (DataW H)} (i : Nat), ts[i]? = some t → l[i]? = some d → z ∈ d.weights P t → z ∈ DataW.weightsEach P ts l
  | [], _, i, h, _, _ => by simp at h
  | _ :: _, [], i, _, h, _ => by simp at h
  | a :: ts, b :: l, 0, h1, h2, hz => by
    simp at h1 h2
    subst h1; subst h2
    simp only [DataW.weightsEach, List.mem_append]
    exact .inl hz
  | a :: ts, b :: l, i + 1, h1, h2, hz => by
    simp only [DataW.weightsEach, List.mem_append]
    exact .inr (weightsEach_mem (ts := ts) (l := l) i (by simpa using h1) (by simpa using h2) hz)
theorem okW_of {t : TypeId} {d : DataW H} : okW P t d = true ↔ ∀ z ∈ d.weights P t, z ≤ reachBytes := by simp [okW]
theorem okW_slice {t e : TypeId} {es rs : List (DataW H)} (ht : P.underlying t = some (.slice e)) (h : okW P t (.slice es rs) = true) : (es.length + rs.length) * P.bytesOf e ≤ reachBytes ∧ ∀ d ∈ es, okW P e d = true := by
  rw [okW_of] at h
  simp only [DataW.weights, ht] at h
  exact ⟨h _ (by simp), fun d hd => okW_of.2 fun z hz => h z (List.mem_cons_of_mem _ (List.mem_append_left _ (weightsAll_mem hd hz)))⟩
theorem okW_array {t e : TypeId} {n : Nat} {es : List (DataW H)} (ht : P.underlying t = some (.array n e)) (h : okW P t (.agg es) = true) : ∀ d ∈ es, okW P e d = true := by
  rw [okW_of] at h
  simp only [DataW.weights, ht] at h
  exact fun d hd => okW_of.2 fun z hz => h z (weightsAll_mem hd hz)
theorem okW_struct {t : TypeId} {fs : Array Field} {es : List (DataW H)} (ht : P.underlying t = some (.struct fs)) (h : okW P t (.agg es) = true) {i : Nat} {f : Field} {d : DataW H} (hf : fs[i]? = some f) (hd : es[i]? = some d) : okW P f.type d = true := by
  rw [okW_of] at h
  simp only [DataW.weights, ht] at h
  exact okW_of.2 fun z hz => h z (weightsEach_mem i (by simp [hf]) hd hz)
theorem okW_str {t : TypeId} {bs : List UInt8} (h : okW P t (.lit (.string bs) : DataW H) = true) : bs.length ≤ reachBytes := by
  rw [okW_of] at h
  simp only [DataW.weights] at h
  exact h _ (by simp)

/-- What reads as data is a tree, and the tree is as its type's data lie. -/
theorem rep_of_trod {spare : Nat → Bool} {held : Bool} (hA : ∀ b o, ¬ A b o) : ∀ (n : Nat) (t : TypeId) (pl : Pl) (fuel : Nat) (cs : List Value) (x : DataW H × List MemPlace),
    plB P n t pl = true → DataW.trod enc P w 0 spare held fuel t cs = some x → okW P t x.1 = true → ∃ y, RepP w A cs y ∧ Fits pl y
  | 0, t, pl, fuel, cs, x, h, _, _ => by simp [plB] at h
  | n + 1, t, pl, fuel, cs, x, h, hx, hw => by
    unfold plB at h
    split at h
    · rename_i k k' hu
      simp only [decide_eq_true_eq] at h
      subst h
      obtain ⟨m, rfl, _, h2⟩ := DataW.trod_int hu hx
      exact ⟨_, .v rfl, .int h2⟩
    · rename_i hu
      obtain ⟨b, rfl, _⟩ := DataW.trod_bool hu hx
      exact ⟨_, .v rfl, .bool b⟩
    · rename_i hu
      obtain ⟨s, rfl, hxe, h2⟩ := DataW.trod_string hu hx
      have h3 : s.size ≤ reachBytes := by
        rw [hxe] at hw
        have := okW_str hw
        simpa using this
      exact ⟨_, .v rfl, .str s h3⟩
    · rename_i k m m' e hu
      simp only [Bool.and_eq_true, decide_eq_true_eq, beq_iff_eq] at h
      obtain ⟨⟨⟨rfl, h2⟩, h3⟩, h4⟩ := h
      obtain ⟨xs, fu, rfl, _, hl, hn, hel⟩ := DataW.trod_array hu hx
      rw [h2] at hel
      have hcell : ∀ i, i < m → ∃ z : Int, cs[i]? = some (.int k z) ∧ (Lit.int k z).wf = true := fun i hi => by
        have h5 := hel i hi
        have hlt : i < cs.length := by omega
        obtain ⟨y, hy⟩ : ∃ y, xs[i]? = some y := ⟨_, List.getElem?_eq_getElem (by omega)⟩
        rw [hy] at h5
        have hk : P.underlying e = some (.int k) := by
          cases n with
          | zero => simp [plB] at h3
          | succ n =>
            unfold plB at h3
            cases hue : P.underlying e with
            | none => simp [hue] at h3
            | some d =>
              cases d <;> simp [hue] at h3
              subst h3
              rfl
        obtain ⟨z, h6, _, h7⟩ := DataW.trod_int hk h5
        refine ⟨z, ?_, h7⟩
        rw [Nat.mul_one] at h6
        have := congrArg (fun l => l[0]?) h6
        simpa [List.getElem?_take, hlt] using this
      obtain ⟨f, hf⟩ := exists_list hcell
      refine ⟨.ints k m ((List.range m).map f), ?_, .ints (by simp) fun z hz => ?_⟩
      · have e1 : cs = ((List.range m).map f).map (Value.int k) := by
          refine List.ext_getElem? fun i => ?_
          by_cases hi : i < m
          · rw [(hf i hi).1]; simp [hi]
          · rw [List.getElem?_eq_none (by omega), List.getElem?_eq_none (by simp; omega)]
        rw [e1]
        exact .ints (by simp)
      · simp at hz
        obtain ⟨i, hi, rfl⟩ := hz
        exact (hf i hi).2
    · rename_i m p m' e hu
      simp only [Bool.and_eq_true, decide_eq_true_eq, beq_iff_eq] at h
      obtain ⟨⟨rfl, h3⟩, h4⟩ := h
      obtain ⟨xs, fu, rfl, hxe, hl, hn, hel⟩ := DataW.trod_array hu hx
      rw [hxe] at hw
      have hws := okW_array hu hw
      have hcell : ∀ i, i < m → ∃ y, RepP w A ((cs.drop (i * P.cellsOf e)).take (P.cellsOf e)) y ∧ Fits p y := fun i hi => by
        have h5 := hel i hi
        obtain ⟨y, hy⟩ : ∃ y, xs[i]? = some y := ⟨_, List.getElem?_eq_getElem (by omega)⟩
        rw [hy] at h5
        exact rep_of_trod hA n e p _ _ _ h3 h5 (hws _ (List.mem_map.2 ⟨y, List.mem_of_getElem? hy, rfl⟩))
      obtain ⟨f, hf⟩ := exists_list hcell
      refine ⟨.st ((List.range m).map f), RepP.st_flat f (fun i hi => (hf i hi).1) (by omega), .arr (by simp) fun z hz => ?_⟩
      simp at hz
      obtain ⟨i, hi, rfl⟩ := hz
      exact (hf i hi).2
    · rename_i sz p e hu
      simp only [Bool.and_eq_true, decide_eq_true_eq, beq_iff_eq] at h
      obtain ⟨⟨⟨h1, hby⟩, rfl⟩, h3⟩ := h
      rcases DataW.trod_slice hu hx with ⟨rfl, _⟩ | ⟨a, len, cap, elems, rest, fu, rfl, rfl, hxe, _, hlc, hcm, hel, hat, _⟩
      · exact ⟨_, .sln, .sl (by simp) (by simp)⟩
      · rw [hxe] at hw
        obtain ⟨hwl, hws⟩ := okW_slice hu hw
        have hlen : len ≤ reachBytes := by
          simp only [List.length_map] at hwl
          have h9 : len * 1 ≤ (elems.length + rest.length) * P.bytesOf e := Nat.mul_le_mul (by omega) hby
          omega
        have hcell : ∀ i, i < len → ∃ q : List Value × PV, (w.cells? 0 (a.add (i * P.cellsOf e)) (P.cellsOf e)) = some q.1 ∧ RepP w A q.1 q.2 ∧ Fits p q.2 := fun i hi => by
          have h5 := hat i hi
          obtain ⟨y, hy⟩ : ∃ y, elems[i]? = some y := ⟨_, List.getElem?_eq_getElem (by omega)⟩
          rw [hy] at h5
          cases hc : w.cells? 0 (a.add (i * P.cellsOf e)) (P.cellsOf e) with
          | none => rw [hc] at h5; cases h5
          | some us =>
            rw [hc] at h5
            obtain ⟨y', g1, g2⟩ := rep_of_trod hA n e p _ _ _ h3 h5 (hws _ (List.mem_map.2 ⟨y, List.mem_of_getElem? hy, rfl⟩))
            exact ⟨(us, y'), rfl, g1, g2⟩
        obtain ⟨f, hf⟩ := exists_list hcell
        rcases Nat.eq_zero_or_pos len with h0 | h0
        · subst h0
          exact ⟨_, .sln, .sl (by simp) (by simp)⟩
        have hsp : a.spot = none := by
          obtain ⟨_, h6, h7⟩ := World.cells?_some (hf 0 h0).1
          have := h7 0 h1
          have h8 : (f 0).1[0]? = some (f 0).1[0] := List.getElem?_eq_getElem (by omega)
          rw [h8] at this
          have := World.cell?_spot this
          simpa [Addr.add] using this
        obtain ⟨b, off, sp⟩ := a
        simp only at hsp
        subst hsp
        refine ⟨.sl (P.cellsOf e) ((List.range len).map fun i => (f i).2), .sl (fun i => (f i).1) (by simp) hlc (fun i hi => ?_) (fun i y hy => ?_) fun i hi j v hj => ⟨?_, hA _ _⟩, .sl (fun z hz => ?_) (by simp; exact hlen)⟩
        · exact (World.cells?_some (hf i hi).1).2.1
        · have hi : i < len := by have := (List.getElem?_eq_some_iff.1 hy).1; simpa using this
          simp [hi] at hy
          subst hy
          exact (hf i hi).2.1
        · obtain ⟨_, h6, h7⟩ := World.cells?_some (hf i hi).1
          have hjl := (List.getElem?_eq_some_iff.1 hj).1
          have := h7 j (by omega)
          rw [hj] at this
          rw [← this, Addr.add_lit, Addr.add_lit]
        · simp at hz
          obtain ⟨i, hi, rfl⟩ := hz
          exact (hf i hi).2.2
    · rename_i ps fs hu
      simp only [beq_iff_eq] at h
      obtain ⟨xs, fu, rfl, hxe, hl, hn, hel⟩ := DataW.trod_struct hu hx
      rw [hxe] at hw
      obtain ⟨_, ys, g1, g2⟩ := rep_fields (P := P) (w := w) (A := A) (r := plB P n) (tr := fun t cs => (DataW.trod enc P w 0 spare held fu t cs).bind fun x => if okW P t x.1 = true then some x else none) (fun t pl cs x h hx => by
        simp only [Option.bind_eq_some_iff] at hx
        obtain ⟨x', hx1, hx2⟩ := hx
        split at hx2
        · rename_i hk
          exact rep_of_trod hA n t pl _ _ _ h hx1 hk
        · cases hx2) fs.toList ps 0 _ cs h hl fun f hf => by
        obtain ⟨i, hi, hfi⟩ := List.mem_iff_getElem.1 hf
        have hi' : i < fs.size := by simpa using hi
        have h5 := hel i f (by rw [Array.getElem?_eq_getElem hi']; simpa using hfi)
        obtain ⟨y, hy⟩ : ∃ y, xs[i]? = some y := ⟨_, List.getElem?_eq_getElem (by omega)⟩
        have hk := okW_struct hu hw (i := i) (f := f) (d := y.1) (by rw [Array.getElem?_eq_getElem hi']; simpa using hfi) (by simp [hy])
        refine ⟨y, ?_⟩
        rw [hy] at h5
        simp only [h5, Option.bind_some, hk, if_true]
      exact ⟨_, by simpa using g1, g2⟩
    · cases h

/-- What is asked of a call's value: it is formed as its type says, and reads as data. -/
theorem repV_of_trod {spare : Nat → Bool} {held : Bool} (hA : ∀ b o, ¬ A b o) {m : Nat → Reg} {Hp : Nat → AObj} {n : Nat} {t : TypeId} {pl : Pl} {v : Value} {d : DataW H} {ps : List MemPlace} {r : Reach} {base : Nat}
    (h : plB P n t pl = true) (hok : Value.okWide P w r base t v) (hx : DataW.Trod enc P w 0 spare held t v d ps) (hw : okW P t d = true) : ∃ y, RepV w A m Hp v (.p y) ∧ Fits pl y := by
  obtain ⟨fuel, hx⟩ := hx
  obtain ⟨y, h1, h2⟩ := rep_of_trod hA n t pl fuel _ _ h hx hw
  refine ⟨y, ?_, h2⟩
  have agg : (∃ cs, v = .agg cs) → (AV.p y).isAgg = true → RepV w A m Hp v (.p y) := by
    rintro ⟨cs, rfl⟩ ha
    have := RepV.agg (w := w) (A := A) (m := m) (H := Hp) (RepC.p h1) ha
    simpa [Value.cells] using this
  have one : v.cells.toList = [v] → (AV.p y).isAgg = false → RepV w A m Hp v (.p y) := fun e ha => by
    rw [e] at h1
    exact .one (.p h1) ha
  cases n with
  | zero => simp [plB] at h
  | succ n =>
    unfold plB at h
    split at h
    · rename_i hu
      obtain ⟨z, rfl⟩ := WideShapes.okWide_int hu hok
      cases h2; exact one rfl rfl
    · rename_i hu
      obtain ⟨z, rfl⟩ := WideShapes.okWide_bool hu hok
      cases h2; exact one rfl rfl
    · rename_i hu
      obtain ⟨z, rfl⟩ := WideShapes.okWide_string hu hok
      cases h2; exact one rfl rfl
    · rename_i hu
      cases h2
      refine agg ?_ rfl
      unfold Value.okWide at hok
      rw [hu] at hok
      obtain ⟨cs, e, _⟩ := hok
      exact ⟨cs, e⟩
    · rename_i hu
      cases h2
      refine agg ?_ rfl
      unfold Value.okWide at hok
      rw [hu] at hok
      obtain ⟨cs, e, _⟩ := hok
      exact ⟨cs, e⟩
    · rename_i hu
      obtain ⟨a, l, c, rfl⟩ := WideShapes.okWide_slice hu hok
      cases h2; exact one rfl rfl
    · rename_i hu
      obtain ⟨cs, rfl, _⟩ := WideShapes.okWide_struct hu hok
      cases h2 <;> exact agg ⟨_, rfl⟩ rfl
    · cases h
end

/-- Nobody owns anything, nothing is to be avoided. -/
theorem simH_none {w : World} {m : Nat → Reg} (hg : GlobOk w (St.av (fun _ _ => False) m (fun _ => .dead))) : SimH w (fun _ _ => False) m (fun _ => .dead) :=
  ⟨fun id => trivial, fun i j b o _ h => (h.1 rfl).elim, fun b o h => h.elim, hg⟩
/-- From a contract that answers a plain value to the call. -/
theorem ACalls.closed {P : Program} {f : FuncId} {args : List AV} {r : Value} (h : ACalls P f args [] (.p (.v r)) []) {w : World} {vals : List Value} (hl : vals.length = args.length)
    (hv : ∀ (i : Nat) (x : Value) (a : AV), vals[i]? = some x → args[i]? = some a → RepV w (fun _ _ => False) (fun _ => default) (fun _ => .dead) x a) (hg : GlobOk w (fun _ _ => False)) :
    Calls P f vals.toArray w fun e w' => e = .returned r ∧ Go.RowKit.Below w.heap.size w w' := by
  have e0 : St.av (fun _ _ => False) (fun _ => default) (fun _ => AObj.dead) = fun _ _ => False := by
    funext b o
    refine propext ⟨fun h => ?_, fun h => h.elim⟩
    rcases h with h | ⟨_, h⟩
    · exact h
    · exact h.1 rfl
  have e1 : hOf [] = fun _ => AObj.dead := rfl
  refine (h.2 w (fun _ _ => False) (fun _ => default) vals hl (by rw [e1, e0]; exact hv) (by rw [e1]; exact simH_none (by rw [e0]; exact hg))).mono ?_
  rintro e w' ⟨x, m', rfl, g2, _, g4, _⟩
  refine ⟨by rw [← g2.pv], ?_⟩
  refine Fr.below (g4.mono fun b o _ h => ?_)
  obtain ⟨_, h⟩ := h
  exact h.1 rfl
end Go.Av
namespace Go.Av
open Go
set_option linter.unusedVariables false
set_option linter.unusedSimpArgs false
set_option linter.unusedSectionVars false
variable [Globs]
section
variable {H : Type} {enc : TypeId × Value → H} {P : Program} {w : World} {A : Avoid}
/-- A row of numbers that reads as these numbers. -/
theorem rep_row {base : Nat} {spare : Nat → Bool} {held : Bool} {k : IntKind} {t e : TypeId} {m fuel : Nat} {cs : List Value} {l : List Int} {ps : List MemPlace} (ht : P.underlying t = some (.array m e)) (he : P.underlying e = some (.int k)) (hc : P.cellsOf e = 1) (hct : P.cellsOf t = m)
    (hx : DataW.trod enc P w base spare held fuel t cs = some (.agg (l.map fun z => .lit (.int k z)), ps)) : cs = l.map (Value.int k) ∧ l.length = m := by
  obtain ⟨xs, fu, rfl, h1, hl, hn, hel⟩ := DataW.trod_array ht hx
  rw [hc] at hel
  injection h1 with h1 _
  injection h1 with h1
  have hlen : l.length = m := by have := congrArg List.length h1; simp at this; omega
  refine ⟨List.ext_getElem? fun i => ?_, hlen⟩
  by_cases hi : i < m
  · have h5 := hel i hi
    obtain ⟨y, hy⟩ : ∃ y, xs[i]? = some y := ⟨_, List.getElem?_eq_getElem (by omega)⟩
    rw [hy] at h5
    obtain ⟨z, h6, h7, _⟩ := DataW.trod_int he h5
    have h8 := congrArg (fun q => q[i]?) h1
    simp only [List.getElem?_map, hy, Option.map_some] at h8
    have hli : l[i]? = some l[i] := List.getElem?_eq_getElem (by omega)
    rw [hli, h7] at h8
    simp at h8
    have hlt : i < cs.length := by omega
    rw [Nat.mul_one] at h6
    have h9 := congrArg (fun q => q[0]?) h6
    simp [List.getElem?_take, hlt] at h9
    simp [hli, h8, hlt, h9]
  · rw [List.getElem?_eq_none (by omega), List.getElem?_eq_none (by simp; omega)]
/-- A table of numbers. -/
theorem rep_table {base : Nat} {spare : Nat → Bool} {held : Bool} {k : IntKind} {t u e : TypeId} {n m fuel : Nat} {cs : List Value} {L : List (List Int)} {ps : List MemPlace} (ht : P.underlying t = some (.array n u)) (hu : P.underlying u = some (.array m e)) (he : P.underlying e = some (.int k)) (hc : P.cellsOf e = 1) (hcu : P.cellsOf u = m) (hct : P.cellsOf t = n * m)
    (hx : DataW.trod enc P w base spare held fuel t cs = some (.agg (L.map fun l => .agg (l.map fun z => .lit (.int k z))), ps)) : RepP w A cs (.st (L.map fun l => .ints k m l)) := by
  obtain ⟨xs, fu, rfl, h1, hl, hn, hel⟩ := DataW.trod_array ht hx
  rw [hcu] at hel
  injection h1 with h1 _
  injection h1 with h1
  have hlen : L.length = n := by have := congrArg List.length h1; simp at this; omega
  have key : ∀ i, i < n → RepP w A ((cs.drop (i * m)).take m) (.ints k m (ix L i)) := fun i hi => by
    have h5 := hel i hi
    obtain ⟨y, hy⟩ : ∃ y, xs[i]? = some y := ⟨_, List.getElem?_eq_getElem (by omega)⟩
    rw [hy] at h5
    have h8 := congrArg (fun q => q[i]?) h1
    have hli : L[i]? = some (ix L i) := ix_some (by omega)
    simp only [List.getElem?_map, hy, hli, Option.map_some] at h8
    injection h8 with h8
    obtain ⟨a, b⟩ := y
    simp only at h8
    subst h8
    obtain ⟨h9, h10⟩ := rep_row hu he hc hcu h5
    rw [h9]
    exact .ints h10
  have := RepP.st_flat (fun i => PV.ints k m (ix L i)) key (by omega)
  have e : (List.range n).map (fun i => PV.ints k m (ix L i)) = L.map fun l => .ints k m l := by
    refine List.ext_getElem? fun i => ?_
    by_cases hi : i < n
    · simp [hi, ix_some (show i < L.length by omega)]
    · rw [List.getElem?_eq_none (by simp; omega), List.getElem?_eq_none (by simp; omega)]
  rwa [e] at this
end
end Go.Av
end
