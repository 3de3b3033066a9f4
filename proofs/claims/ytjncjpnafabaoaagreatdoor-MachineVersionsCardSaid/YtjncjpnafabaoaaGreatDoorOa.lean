/- The machine: values, objects, what they are in the model. -/
import Derived.Orders
import Derived.Scope
import Derived.WalkKit
import Derived.WalkLawsBesides
import Derived.Laws.StructEq
set_option linter.unusedSimpArgs false
set_option linter.unusedVariables false
set_option linter.unusedSectionVars false
namespace Go.Pv

/-! ### What is not known: integers by terms, texts by pieces. -/
inductive Tm where
  | sym (i : Nat)
  | lit (n : Int)
  | bin (op : BinOp) (k : IntKind) (a b : Tm)
  | cv (k : IntKind) (a : Tm)
  deriving Inhabited, DecidableEq
inductive Ch where
  | lit (s : List UInt8)
  | vi (t : Tm)
  deriving Inhabited, DecidableEq
/-- An operation on integers, as the machine has it. -/
def tmOp (op : BinOp) (k : IntKind) (a b : Int) : Int :=
  match op with
  | .add => k.wrap (a + b)
  | .sub => k.wrap (a - b)
  | .mul => k.wrap (a * b)
  | _ => 0
def tmEv (val : Nat → Int) : Tm → Int
  | .sym i => val i
  | .lit n => n
  | .bin op k a b => tmOp op k (tmEv val a) (tmEv val b)
  | .cv k a => k.wrap (tmEv val a)
/-- How two integers are held against each other. -/
def cmpI (op : BinOp) (a b : Int) : Option Bool :=
  match op with
  | .eql => some (a == b)
  | .neq => some (!(a == b))
  | .lss => some (a < b)
  | .leq => some (a ≤ b)
  | .gtr => some (a > b)
  | .geq => some (a ≥ b)
  | _ => none
/-- What the unknown integers are; what is known of them. -/
class Sy where
  val : Nat → Int
  lists : Nat → List Int := fun _ => []
  dec : BinOp → Tm → Tm → Option Bool
  ok : ∀ op a b r, dec op a b = some r → cmpI op (tmEv val a) (tmEv val b) = some r
def Tm.ev [Sy] (t : Tm) : Int := tmEv Sy.val t
/-- A number's bytes, each with seven of its bits, the last one first. -/
def vintU : Nat → Nat → List UInt8
  | 0, u => [u.toUInt8]
  | n + 1, u => if u < 128 then [u.toUInt8] else (u % 128 + 128).toUInt8 :: vintU n (u / 128)
def zig (v : Int) : Nat := if 0 ≤ v then (2 * v).toNat else (-2 * v - 1).toNat
def vint (v : Int) : List UInt8 := vintU 9 (zig v)
def chev1 [Sy] : Ch → List UInt8
  | .lit s => s
  | .vi t => vint t.ev
def chev [Sy] : List Ch → List UInt8
  | [] => []
  | c :: r => chev1 c ++ chev r
/-- At most so many bytes. -/
def chMost : List Ch → Nat
  | [] => 0
  | .lit s :: r => s.length + chMost r
  | .vi _ :: r => 10 + chMost r
/-- One text more behind. -/
def chApp : List Ch → List UInt8 → List Ch
  | [], s => [.lit s]
  | [.lit t], s => [.lit (t ++ s)]
  | c :: r, s => c :: chApp r s
def chEnd : List Ch → List UInt8
  | [] => []
  | [.lit t] => t
  | [.vi _] => []
  | _ :: r => chEnd r
/-- They differ, as their ends show. -/
def chNe (a b : List Ch) : Bool :=
  let s := chEnd a
  let t := chEnd b
  let n := min s.length t.length
  s.drop (s.length - n) != t.drop (t.length - n)

inductive V where
  | un
  | bool (b : Bool)
  | int (k : IntKind) (n : Int)
  | str (s : List UInt8)
  | nilp
  | ptr (k off : Nat)
  | ip (cs : List V)
  | nils
  | sl (k off len : Nat) (cap : Option Nat)
  | is (xs : List (List V)) (clip : Bool)
  | nilm
  | mp (k : Nat)
  | im (es : List (V × V))
  | fn (f : FuncId) (first cap : List V)
  | nilf
  | ifc (t : TypeId) (v : V)
  | nili
  | agg (cs : List V)
  | tup (vs : List V)
  | tm (k : IntKind) (t : Tm)
  | ct (ch : List Ch)
  | cb (ch : List Ch)
  | it (xs : List (List V)) (k : Nat)
  | iv (k : IntKind) (id n ix el : Nat)
  deriving Inhabited
def bytesL (key : List UInt8) : List (List V) := key.map fun b => [V.int .u8 b.toNat]
/-- A pair of integers of one kind, one of them at least unknown. -/
def tmPair : V → V → Option (IntKind × Tm × Tm)
  | .tm k a, .tm l b => if k = l then some (k, a, b) else none
  | .tm k a, .int l n => if k = l then some (k, a, .lit n) else none
  | .int k n, .tm l b => if k = l then some (k, .lit n, b) else none
  | _, _ => none
/-- A pair of texts, one of them at least not wholly known. -/
def chPair : V → V → Option (List Ch × List Ch)
  | .ct a, .ct b => some (a, b)
  | .ct a, .str s => some (a, [.lit s])
  | .str s, .ct b => some ([.lit s], b)
  | _, _ => none
def chSame (a b : List Ch) : Option Bool := if a = b then some true else if chNe a b then some false else none

/-- A value's cells; what has none is refused. -/
def V.cells? : V → Option (List V)
  | .agg cs => some cs
  | .un | .tup _ => none
  | v => some [v]
/-- How two values are held against each other. -/
inductive CK where
  | bool | int | str
  deriving Inhabited, DecidableEq
inductive EqK where
  | no | num | bool | ptr | ifc
  | agg (ks : List CK)
  deriving Inhabited, DecidableEq

inductive VO where
  | dead
  | cells (cs : List V) (esz : Nat)
  | map (es : List (V × V))
  | iter (s : List UInt8) (pos : Nat)
  deriving Inhabited

/-! Temporaries. -/
abbrev Env := List (Nat × V)
def Env.get : Env → Nat → V
  | [], _ => .un
  | (k, v) :: r, n => if k = n then v else Env.get r n

inductive Od where
  | t (n : Nat)
  | c (v : V)
  deriving Inhabited
def Od.ev (e : Env) : Od → V
  | .t n => e.get n
  | .c v => v

inductive Cv where
  | int (k : IntKind)
  | s2b
  | b2s
  | same
  deriving Inhabited

inductive VOp where
  | mov (x : Od)
  | pick (c a b : Od)
  | new (zero : List V)
  | box (x : Od) (n : Nat)
  | build (zero : List V) (parts : List (Nat × Nat × Od))
  | buildS (zero : List V) (len esz : Nat) (parts : List (Nat × Nat × Od))
  | load (agg : Option Nat) (a : Od)
  | store (n : Nat) (a x : Od)
  | nilc (x : Od)
  | bin (op : BinOp) (k : EqK) (x y : Od)
  | una (op : UnOp) (x : Od)
  | conv (c : Cv) (x : Od)
  | mkI (t : TypeId) (x : Od)
  | mkF (f : FuncId) (first cap : List Od)
  | mkM
  | mkS (zero : List V) (esz bytes : Nat) (len cap : Od)
  | slc (str : Bool) (esz : Nat) (x : Od) (lo hi mx : Option Od)
  | fad (off : Nat) (x : Od)
  | fld (off : Nat) (agg : Option Nat) (x : Od)
  | iad (esz : Nat) (arr : Option Nat) (x i : Od)
  | idx (arr : Option (Nat × Nat × Option Nat)) (x i : Od)
  | look (ks : Bool) (zero : V) (ok : Bool) (m k : Od)
  | mset (ks : Bool) (m k x : Od)
  | rng (x : Od)
  | nxt (x : Od)
  | tas (t : TypeId) (zero : V) (ok : Bool) (x : Od)
  | ext (x : Od) (i : Nat)
  | call (f : FuncId) (args : List Od)
  | calld (f : Od) (args : List Od)
  | len (k : Nat) (x : Od)
  | app (esz bytes : Nat) (x y : Od)
  | copy (esz : Nat) (x y : Od)
  | clearM (x : Od)
  | clearS (zero : List V) (esz : Nat) (x : Od)
  | del (ks : Bool) (m k : Od)
  | mx (isMax : Bool) (l : List Od)
  | pan (x : Od)
  deriving Inhabited

structure VOper where
  dst : Option Nat
  op : VOp
  guard : Option (Nat × Bool)
  un : List Nat
  lone : Bool
  deriving Inhabited

inductive VC where
  | skip
  | reg (ops : List VOper) (draw : Bool)
  | seq (a b : VC)
  | cond (c : Od) (a b : VC)
  | block (id : Nat) (c : VC)
  | loop (live : List Nat) (c : VC)
  | exit (id : Nat)
  | scope (c : VC) (l : Option Nat) (rest : VC)
  | goto (l : Nat)
  | ret
  deriving Inhabited

/-- No loop lets anything go. -/
def VC.noGc : VC → Bool
  | .seq a b => a.noGc && b.noGc
  | .cond _ a b => a.noGc && b.noGc
  | .block _ c => c.noGc
  | .loop l c => l.isEmpty && c.noGc
  | .scope c _ r => c.noGc && r.noGc
  | _ => true

inductive RV where
  | tmp (t : Nat)
  | cell (t : Nat) (agg : Option Nat)
  deriving Inhabited
structure VF where
  body : VC
  results : List RV
  deriving Inhabited

/-! References. -/
def V.refs : V → List Nat
  | .ptr k _ => [k]
  | .sl k _ _ _ => [k]
  | .mp k => [k]
  | .fn _ a b => refsL a ++ refsL b
  | .ifc _ v => v.refs
  | .agg cs => refsL cs
  | .tup cs => refsL cs
  | _ => []
where refsL : List V → List Nat
  | [] => []
  | v :: r => v.refs ++ refsL r
def V.ren (f : Nat → Nat) : V → V
  | .ptr k o => .ptr (f k) o
  | .sl k o l c => .sl (f k) o l c
  | .mp k => .mp (f k)
  | .fn g a b => .fn g (renL f a) (renL f b)
  | .ifc t v => .ifc t (v.ren f)
  | .agg cs => .agg (renL f cs)
  | .tup cs => .tup (renL f cs)
  | v => v
where renL (f : Nat → Nat) : List V → List V
  | [] => []
  | v :: r => v.ren f :: renL f r
def VO.refs : VO → List Nat
  | .cells cs _ => V.refs.refsL cs
  | .map es => es.flatMap fun e => e.1.refs ++ e.2.refs
  | _ => []
def VO.ren (f : Nat → Nat) : VO → VO
  | .cells cs e => .cells (V.ren.renL f cs) e
  | .map es => .map (es.map fun e => (e.1.ren f, e.2.ren f))
  | o => o

def reach (h : Nat → VO) : Nat → List Nat → List Nat → List Nat
  | 0, _, acc => acc
  | _, [], acc => acc
  | n + 1, k :: todo, acc => if acc.contains k then reach h n todo acc else reach h n ((h k).refs ++ todo) (acc ++ [k])

def closed (h : Nat → VO) (m : List Nat) (roots : List Nat) : Bool :=
  roots.all (m.contains ·) && m.all fun k => (h k).refs.all (m.contains ·)

structure Rec where
  val : V
  upd : List (Nat × VO)
  rd : List Nat
  deriving Inhabited
inductive Res where
  | ok (r : Rec)
  | pan (v : V)
  deriving Inhabited

/-- How a call ends: what it hands back; what it was handed, and what is new behind it; which of what it was handed it wrote. -/
inductive CRes where
  | ok (v : V) (h : List VO) (ws : List Nat)
  | pan (v : V)
  deriving Inhabited
abbrev Callf := FuncId → List V → List VO → Option CRes

def ok1 (v : V) : Option Res := some (.ok ⟨v, [], []⟩)

def setSeg (cs : List V) (off : Nat) (vs : List V) : List V := cs.take off ++ vs ++ cs.drop (off + vs.length)
def fillP : List V → List (Nat × Nat × V) → Option (List V)
  | cs, [] => some cs
  | cs, (off, n, v) :: r => match v.cells? with
    | some vs => if vs.length = n ∧ off + n ≤ cs.length then fillP (setSeg cs off vs) r else none
    | none => none

def loadC (h : Nat → VO) (a : V) (n : Nat) : Option (List V × List Nat) :=
  match a with
  | .ip cs => if n ≤ cs.length then some (cs.take n, []) else none
  | .ptr k off => match h k with
    | .cells cs _ => if off + n ≤ cs.length then some ((cs.drop off).take n, [k]) else none
    | _ => none
  | _ => none
def shapeOf (agg : Option Nat) (cs : List V) : Option V :=
  match agg with
  | some _ => some (.agg cs)
  | none => match cs with | [v] => some v | _ => none

def sameC : CK → V → V → Option Bool
  | .bool, .bool a, .bool b => some (a == b)
  | .int, .int k a, .int l b => if k = l then some (a == b) else none
  | .str, .str a, .str b => some (a == b)
  | _, _, _ => none
def sameL : List CK → List V → List V → Option Bool
  | [], [], [] => some true
  | k :: ks, a :: x, b :: y => match sameC k a b, sameL ks x y with
    | some r, some q => some (r && q)
    | _, _ => none
  | _, _, _ => none
def sameV : EqK → V → V → Option Bool
  | .num, .int k a, .int l b => if k = l then some (a == b) else none
  | .num, .str a, .str b => some (a == b)
  | .bool, .bool a, .bool b => some (a == b)
  | .ptr, .nilp, .nilp => some true
  | .ptr, .nilp, .ptr _ _ => some false
  | .ptr, .nilp, .ip _ => some false
  | .ptr, .ptr _ _, .nilp => some false
  | .ptr, .ip _, .nilp => some false
  | .ifc, .nili, .nili => some true
  | .ifc, .nili, .ifc _ _ => some false
  | .ifc, .ifc _ _, .nili => some false
  | .agg ks, .agg a, .agg b => sameL ks a b
  | _, _, _ => none

def bitsOp (op : BinOp) (k : IntKind) (x y : Int) : Option Int :=
  let a := BitVec.ofInt k.bits x
  let b := BitVec.ofInt k.bits y
  match op with
  | .and => some (k.wrap (a &&& b).toNat)
  | .or => some (k.wrap (a ||| b).toNat)
  | .xor => some (k.wrap (a ^^^ b).toNat)
  | .andNot => some (k.wrap (a &&& ~~~b).toNat)
  | _ => none

def vbin (op : BinOp) (kq : EqK) (x y : V) : Option V :=
  match op with
  | .eql => (sameV kq x y).map .bool
  | .neq => (sameV kq x y).map fun b => .bool (!b)
  | .shl => match x, y with
    | .int k a, .int _ b => if b < 0 then none else some (.int k (k.wrap (a * 2 ^ (min b.toNat k.bits))))
    | _, _ => none
  | .shr => match x, y with
    | .int k a, .int _ b => if b < 0 then none else some (.int k (a.fdiv (2 ^ (min b.toNat k.bits))))
    | _, _ => none
  | _ => match x, y with
    | .int k a, .int l b => if k ≠ l then none else
      match op with
      | .add => some (.int k (k.wrap (a + b)))
      | .sub => some (.int k (k.wrap (a - b)))
      | .mul => some (.int k (k.wrap (a * b)))
      | .quo => if b = 0 then none else some (.int k (k.wrap (a.tdiv b)))
      | .rem => if b = 0 then none else some (.int k (a.tmod b))
      | .lss => some (.bool (a < b))
      | .leq => some (.bool (a ≤ b))
      | .gtr => some (.bool (a > b))
      | .geq => some (.bool (a ≥ b))
      | _ => (bitsOp op k a b).map (.int k)
    | .str a, .str b =>
      match op with
      | .add => if a.length + b.length ≤ 2 ^ 62 then some (.str (a ++ b)) else none
      | .lss => some (.bool (Op.bytesLess a b))
      | .leq => some (.bool (Op.bytesLess a b || a == b))
      | .gtr => some (.bool !(Op.bytesLess a b || a == b))
      | .geq => some (.bool !(Op.bytesLess a b))
      | _ => none
    | _, _ => none

section
variable [Sy]
/-- What is known in part, known. -/
def conc0 : V → V
  | .tm k t => .int k t.ev
  | .ct ch => .str (chev ch)
  | v => v
def concA : V → V
  | .agg cs => .agg (cs.map conc0)
  | v => conc0 v
def sameC' (c : CK) (x y : V) : Option Bool :=
  match tmPair x y with
  | some (_, a, b) => if c = .int then Sy.dec .eql a b else none
  | none => match chPair x y with
    | some (a, b) => if c = .str then chSame a b else none
    | none => sameC c x y
/-- As soon as two parts differ, all do; the rest must be of the right kinds all the same. -/
def kindC (c : CK) (x y : V) : Bool :=
  match c, conc0 x, conc0 y with
  | .bool, .bool _, .bool _ => true
  | .int, .int k _, .int l _ => k == l
  | .str, .str _, .str _ => true
  | _, _, _ => false
def kindL : List CK → List V → List V → Bool
  | [], [], [] => true
  | k :: ks, a :: x, b :: y => kindC k a b && kindL ks x y
  | _, _, _ => false
def sameL' : List CK → List V → List V → Option Bool
  | [], [], [] => some true
  | k :: ks, a :: x, b :: y => match sameC' k a b with
    | some true => sameL' ks x y
    | some false => if kindL ks x y then some false else none
    | none => match sameL' ks x y with
      | some false => if kindC k a b then some false else none
      | _ => none
  | _, _, _ => none
def sameX (kq : EqK) (x y : V) : Option Bool :=
  match kq, tmPair x y, chPair x y, x, y with
  | .num, some (_, a, b), _, _, _ => Sy.dec .eql a b
  | .num, none, some (a, b), _, _ => chSame a b
  | .agg ks, _, _, .agg a, .agg b => sameL' ks a b
  | _, _, _, _, _ => none
def addX : V → V → Option V
  | .ct a, .str t => if chMost a + t.length ≤ 2 ^ 62 then some (.ct (chApp a t)) else none
  | _, _ => none
def vext (op : BinOp) (kq : EqK) (x y : V) : Option V :=
  match op with
  | .eql => (sameX kq x y).map .bool
  | .neq => (sameX kq x y).map fun b => .bool (!b)
  | .add => match tmPair x y with
    | some (k, a, b) => some (.tm k (.bin .add k a b))
    | none => addX x y
  | .sub | .mul => match tmPair x y with
    | some (k, a, b) => some (.tm k (.bin op k a b))
    | none => none
  | .lss | .leq | .gtr | .geq => match tmPair x y with
    | some (_, a, b) => (Sy.dec op a b).map .bool
    | none => none
  | _ => none
def xbin (op : BinOp) (kq : EqK) (x y : V) : Option V :=
  match vbin op kq x y with
  | some v => some v
  | none => vext op kq x y
end

def vun (op : UnOp) (x : V) : Option V :=
  match op, x with
  | .neg, .int k n => some (.int k (k.wrap (0 - n)))
  | .not, .bool b => some (.bool !b)
  | _, _ => none

def bytesV (s : List UInt8) : List V := s.map fun b => .int .u8 b.toNat
def unbyte : List V → Option (List UInt8)
  | [] => some []
  | .int .u8 n :: r => (unbyte r).map (UInt8.ofNat n.toNat :: ·)
  | _ => none

/-- The cells of a slice's (or a string's) elements, how many elements, what is read. -/
def sliceC (h : Nat → VO) (esz : Nat) (x : V) : Option (List V × Nat × List Nat) :=
  match x with
  | .nils => some ([], 0, [])
  | .str s => if esz = 1 then some (bytesV s, s.length, []) else none
  | .is xs _ => if xs.all (·.length == esz) then some (xs.flatten, xs.length, []) else none
  | .sl k off len _ => match h k with
    | .cells cs _ => if off + len * esz ≤ cs.length then some ((cs.drop off).take (len * esz), len, [k]) else none
    | _ => none
  | _ => none

def natOf : V → Option Nat
  | .int _ n => if 0 ≤ n then some n.toNat else none
  | _ => none
def natOr (e : Option V) (d : Nat) : Option Nat :=
  match e with
  | none => some d
  | some v => natOf v

def findM (k : V) : List (V × V) → Nat → Option (Option (Nat × V))
  | [], _ => some none
  | (a, b) :: r, i =>
    match k, a with
    | .int x n, .int y m => if x = y then (if n = m then some (some (i, b)) else findM k r (i + 1)) else none
    | .str s, .str t => if s = t then some (some (i, b)) else findM k r (i + 1)
    | _, _ => none
section
variable [Sy]
/-- Where keys are known in part. -/
def findX (k : V) : List (V × V) → Nat → Option (Option (Nat × V))
  | [], _ => some none
  | (a, b) :: r, i =>
    match chPair k a with
    | some (x, y) => (match chSame x y with
      | some true => some (some (i, b))
      | some false => findX k r (i + 1)
      | none => none)
    | none => match k, a with
      | .str s, .str t => if s = t then some (some (i, b)) else findX k r (i + 1)
      | _, _ => none
def findY (k : V) (es : List (V × V)) (i : Nat) : Option (Option (Nat × V)) :=
  match findM k es i with
  | some r => some r
  | none => findX k es i
end
def keyOk : Bool → V → Bool
  | false, .int _ _ | true, .str _ | true, .ct _ => true
  | _, _ => false

def maxBytes : Nat := 2 ^ 46

/-- A call: what it hands over, what it writes back. -/
def doCall (call : Callf) (h : Nat → VO) (nk : Nat) (f : FuncId) (args : List V) : Option Res :=
  let roots := V.refs.refsL args
  let m := reach h 2000 roots []
  if closed h m roots then
    match call f (V.ren.renL (fun k => m.idxOf k) args) (m.map fun k => (h k).ren (fun k => m.idxOf k)) with
    | none => none
    | some (.pan v) => some (.pan v)
    | some (.ok v h' ws) =>
      if m.length ≤ h'.length ∧ ws.all (· < m.length) then
        let back := fun k => if k < m.length then m.getD k 0 else nk + (k - m.length)
        some (.ok ⟨v.ren back, (ws.map fun i => (m.getD i 0, (h'.getD i .dead).ren back)) ++ ((List.range (h'.length - m.length)).map fun i => (nk + i, ((h'.getD (m.length + i) .dead)).ren back)), m⟩)
      else none
  else none

section
variable [Sy]
def v_mov (e : Env) (x : Od) : Option Res := ok1 (x.ev e)
def v_pick (e : Env) (c : Od) (a : Od) (b : Od) : Option Res := match c.ev e with
    | .bool t => ok1 (if t then a.ev e else b.ev e)
    | _ => none
def v_new (nk : Nat) (zero : List V) : Option Res := some (.ok ⟨.ptr nk 0, [(nk, .cells zero zero.length)], []⟩)
def v_box (nk : Nat) (e : Env) (x : Od) (n : Nat) : Option Res := match (x.ev e).cells? with
    | some cs => if cs.length = n then some (.ok ⟨.ptr nk 0, [(nk, .cells cs n)], []⟩) else none
    | none => none
def v_build (e : Env) (zero : List V) (parts : List (Nat × Nat × Od)) : Option Res := match fillP zero (parts.map fun p => (p.1, p.2.1, p.2.2.ev e)) with
    | some cs => ok1 (.agg cs)
    | none => none
def v_buildS (nk : Nat) (e : Env) (zero : List V) (len : Nat) (esz : Nat) (parts : List (Nat × Nat × Od)) : Option Res := match fillP zero (parts.map fun p => (p.1, p.2.1, p.2.2.ev e)) with
    | some cs => some (.ok ⟨.sl nk 0 len (some len), [(nk, .cells cs esz)], []⟩)
    | none => none
def v_load (hh : Nat → VO) (e : Env) (agg : Option Nat) (a : Od) : Option Res := match loadC hh (a.ev e) (agg.getD 1) with
    | some (cs, rd) => (shapeOf agg cs).map fun v => .ok ⟨v, [], rd⟩
    | none => none
def v_store (hh : Nat → VO) (e : Env) (n : Nat) (a : Od) (x : Od) : Option Res := match a.ev e with
    | .ptr k off => match hh k with
      | .cells cs esz => match (x.ev e).cells? with
        | some vs => if vs.length = n ∧ off + n ≤ cs.length then some (.ok ⟨.un, [(k, .cells (setSeg cs off vs) esz)], [k]⟩) else none
        | none => none
      | _ => none
    | _ => none
def v_nilc (e : Env) (x : Od) : Option Res := match x.ev e with
    | .ptr k off => ok1 (.ptr k off)
    | .ip cs => ok1 (.ip cs)
    | .fn f a b => ok1 (.fn f a b)
    | _ => none
def v_bin (e : Env) (op : BinOp) (kq : EqK) (x : Od) (y : Od) : Option Res := match xbin op kq (x.ev e) (y.ev e) with
    | some v => ok1 v
    | none => none
def v_una (e : Env) (op : UnOp) (x : Od) : Option Res := match vun op (x.ev e) with
    | some v => ok1 v
    | none => none
def v_conv (hh : Nat → VO) (e : Env) (c : Cv) (x : Od) : Option Res := match c with
    | .int k => (match x.ev e with
      | .int _ n => ok1 (.int k (k.wrap n))
      | .tm _ t => ok1 (.tm k (.cv k t))
      | _ => none)
    | .same => (match x.ev e with
      | .str s => ok1 (.str s)
      | _ => none)
    | .s2b => (match x.ev e with
      | .str s => if s.length ≤ maxBytes then ok1 (.is (s.map fun b => [.int .u8 b.toNat]) false) else none
      | _ => none)
    | .b2s => (match sliceC hh 1 (x.ev e) with
      | some (cs, _, rd) => (unbyte cs).map fun s => .ok ⟨.str s, [], rd⟩
      | none => match x.ev e with
        | .cb ch => ok1 (.ct ch)
        | _ => none)
def v_mkI (e : Env) (t : TypeId) (x : Od) : Option Res := ok1 (.ifc t (x.ev e))
def v_mkF (e : Env) (f : FuncId) (a : List Od) (b : List Od) : Option Res := ok1 (.fn f (a.map (·.ev e)) (b.map (·.ev e)))
def v_mkM (nk : Nat)  : Option Res := some (.ok ⟨.mp nk, [(nk, .map [])], []⟩)
def v_mkS (nk : Nat) (e : Env) (zero : List V) (esz : Nat) (bytes : Nat) (len : Od) (cap : Od) : Option Res := match natOf (len.ev e), natOf (cap.ev e) with
    | some l, some c => if l = c ∧ l * bytes ≤ maxBytes ∧ l ≤ maxBytes then some (.ok ⟨.sl nk 0 l (some l), [(nk, .cells (List.replicate l zero).flatten esz)], []⟩) else none
    | _, _ => none
def v_slc (e : Env) (str : Bool) (esz : Nat) (x : Od) (lo : Option Od) (hi : Option Od) (mx : Option Od) : Option Res :=
    let mxv := mx.map (·.ev e)
    match natOr (lo.map (·.ev e)) 0 with
    | none => none
    | some l => match x.ev e with
      | .str s => match natOr (hi.map (·.ev e)) s.length with
        | some h => if l ≤ h ∧ h ≤ s.length ∧ mxv.isNone ∧ str then ok1 (.str ((s.take h).drop l)) else none
        | none => none
      | .nils => match natOr (hi.map (·.ev e)) 0, natOr mxv 0 with
        | some h, some m => if l = 0 ∧ h = 0 ∧ m = 0 ∧ !str then ok1 .nils else none
        | _, _ => none
      | .is xs clip => match natOr (hi.map (·.ev e)) xs.length, natOr mxv xs.length with
        | some h, some m => if l ≤ h ∧ h ≤ m ∧ m ≤ xs.length ∧ !str ∧ (l = 0 ∨ (xs.headD []).length = esz) then ok1 (.is ((xs.take h).drop l) (if mxv.isSome then h == m else clip && h == xs.length)) else none
        | _, _ => none
      | .sl k off len cap => match natOr (hi.map (·.ev e)) len, natOr mxv len with
        | some h, some m => if l ≤ h ∧ h ≤ m ∧ m ≤ len ∧ !str then
            let cap' := if mxv.isSome then some (m - l) else cap.map (· - l)
            ok1 (if l = 0 then .sl k off h cap' else if h = l then .is [] false else .sl k (off + l * esz) (h - l) cap') else none
        | _, _ => none
      | _ => none
def v_fad (e : Env) (off : Nat) (x : Od) : Option Res := match x.ev e with
    | .ptr k o => ok1 (.ptr k (o + off))
    | .ip cs => if off ≤ cs.length then ok1 (.ip (cs.drop off)) else none
    | _ => none
def v_fld (e : Env) (off : Nat) (agg : Option Nat) (x : Od) : Option Res := match x.ev e with
    | .agg cs => if off + agg.getD 1 ≤ cs.length then match shapeOf agg ((cs.drop off).take (agg.getD 1)) with
        | some v => ok1 v
        | none => none
      else none
    | _ => none
def v_iad (e : Env) (esz : Nat) (arr : Option Nat) (x : Od) (i : Od) : Option Res := match i.ev e with
    | .int _ n => if n < 0 then none else
      match arr with
      | none => (match x.ev e with
        | .is xs _ => (match xs[n.toNat]? with
          | some cs => if cs.length = esz then ok1 (.ip cs) else none
          | none => none)
        | .sl k off len _ => if n.toNat < len then ok1 (.ptr k (off + n.toNat * esz)) else none
        | .it xs _ => (match xs[n.toNat]? with
          | some cs => if cs.length = esz then ok1 (.ip cs) else none
          | none => none)
        | _ => none)
      | some len => (match x.ev e with
        | .ptr k off => if n.toNat < len then ok1 (.ptr k (off + n.toNat * esz)) else none
        | .ip cs => if n.toNat < len ∧ n.toNat * esz ≤ cs.length then ok1 (.ip (cs.drop (n.toNat * esz))) else none
        | _ => none)
    | .tm _ (.sym j) => (match arr, x.ev e with
      | none, .iv k _ n ix el => if j = ix ∧ esz = 1 ∧ Sy.dec .lss (.sym ix) (.sym n) = some true ∧ Sy.dec .geq (.sym ix) (.lit 0) = some true then ok1 (.ip [.tm k (.sym el)]) else none
      | _, _ => none)
    | _ => none
def v_idx (e : Env) (arr : Option (Nat × Nat × Option Nat)) (x : Od) (i : Od) : Option Res := match i.ev e with
    | .int _ n => if n < 0 then none else
      match arr with
      | none => (match x.ev e with
        | .str s => (match s[n.toNat]? with
          | some b => ok1 (.int .u8 b.toNat)
          | none => none)
        | _ => none)
      | some (len, esz, agg) => (match x.ev e with
        | .agg cs => if n.toNat < len ∧ n.toNat * esz + agg.getD 1 ≤ cs.length then
            match shapeOf agg ((cs.drop (n.toNat * esz)).take (agg.getD 1)) with
            | some v => ok1 v
            | none => none
          else none
        | _ => none)
    | _ => none
def v_look (hh : Nat → VO) (e : Env) (ks : Bool) (zero : V) (ok : Bool) (m : Od) (k : Od) : Option Res :=
    let out := fun (r : Option (Option (Nat × V))) (rd : List Nat) => match r with
      | some (some (_, v)) => some (Res.ok ⟨if ok then .tup [v, .bool true] else v, [], rd⟩)
      | some none => some (Res.ok ⟨if ok then .tup [zero, .bool false] else zero, [], rd⟩)
      | none => none
    if keyOk ks (k.ev e) then
      match m.ev e with
      | .nilm => out (some none) []
      | .im es => out (findY (k.ev e) es 0) []
      | .mp q => match hh q with
        | .map es => out (findY (k.ev e) es 0) [q]
        | _ => none
      | _ => none
    else none
def v_mset (hh : Nat → VO) (e : Env) (ks : Bool) (m : Od) (k : Od) (x : Od) : Option Res := if keyOk ks (k.ev e) then
      match m.ev e with
      | .mp q => match hh q with
        | .map es => match findY (k.ev e) es 0 with
          | some (some (i, _)) => some (.ok ⟨.un, [(q, .map (es.set i (k.ev e, x.ev e)))], [q]⟩)
          | some none => some (.ok ⟨.un, [(q, .map (es ++ [(k.ev e, x.ev e)]))], [q]⟩)
          | none => none
        | _ => none
      | _ => none
    else none
def v_rng (nk : Nat) (e : Env) (x : Od) : Option Res := match x.ev e with
    | .str s => some (.ok ⟨.ptr nk 0, [(nk, .iter s 0)], []⟩)
    | _ => none
def v_nxt (hh : Nat → VO) (e : Env) (x : Od) : Option Res := match x.ev e with
    | .ptr q 0 => match hh q with
      | .iter s pos => if pos < s.length then
          some (.ok ⟨.tup [.bool true, .int .i64 pos, .int .i32 (Utf8.decode ⟨s.toArray⟩ pos).1], [(q, .iter s (pos + (Utf8.decode ⟨s.toArray⟩ pos).2))], [q]⟩)
        else some (.ok ⟨.tup [.bool false], [], [q]⟩)
      | _ => none
    | _ => none
def v_tas (e : Env) (t : TypeId) (zero : V) (ok : Bool) (x : Od) : Option Res := match x.ev e with
    | .ifc u v => if u = t then ok1 (if ok then .tup [v, .bool true] else v) else if ok then ok1 (.tup [zero, .bool false]) else none
    | .nili => if ok then ok1 (.tup [zero, .bool false]) else none
    | _ => none
def v_ext (e : Env) (x : Od) (i : Nat) : Option Res := match x.ev e with
    | .tup vs => match vs[i]? with
      | some v => ok1 v
      | none => none
    | _ => none
def v_call (call : Callf) (hh : Nat → VO) (nk : Nat) (e : Env) (f : FuncId) (args : List Od) : Option Res := doCall call hh nk f (args.map (·.ev e))
def v_calld (call : Callf) (hh : Nat → VO) (nk : Nat) (e : Env) (f : Od) (args : List Od) : Option Res := match f.ev e with
    | .fn g a b => doCall call hh nk g (a ++ args.map (·.ev e) ++ b)
    | _ => none
def v_len (hh : Nat → VO) (e : Env) (kd : Nat) (x : Od) : Option Res := match kd, x.ev e with
    | 0, .str s => ok1 (.int .i64 s.length)
    | 1, .nils => ok1 (.int .i64 0)
    | 1, .is xs _ => ok1 (.int .i64 xs.length)
    | 1, .sl _ _ n _ => ok1 (.int .i64 n)
    | 2, .nilm => ok1 (.int .i64 0)
    | 2, .im es => ok1 (.int .i64 es.length)
    | 2, .mp q => match hh q with
      | .map es => some (.ok ⟨.int .i64 es.length, [], [q]⟩)
      | _ => none
    | 1, .it _ k => ok1 (.tm .i64 (.sym k))
    | 1, .iv _ _ n _ _ => ok1 (.tm .i64 (.sym n))
    | _, _ => none
def v_app (hh : Nat → VO) (nk : Nat) (e : Env) (esz : Nat) (bytes : Nat) (x : Od) (y : Od) : Option Res := match sliceC hh esz (y.ev e) with
    | none => none
    | some (ys, n, rd) =>
      if n = 0 then (match x.ev e with
        | .nils => some (.ok ⟨.nils, [], rd⟩)
        | .is xs c => some (.ok ⟨.is xs c, [], rd⟩)
        | .sl k o l c => some (.ok ⟨.sl k o l c, [], rd⟩)
        | _ => none)
      else match x.ev e with
      | .nils => if n * bytes ≤ maxBytes ∧ n ≤ maxBytes then some (.ok ⟨.sl nk 0 n none, [(nk, .cells ys esz)], rd⟩) else none
      | .is xs true => if (xs.length + n) * bytes ≤ maxBytes ∧ xs.length + n ≤ maxBytes ∧ xs.all (·.length == esz) then some (.ok ⟨.sl nk 0 (xs.length + n) none, [(nk, .cells (xs.flatten ++ ys) esz)], rd⟩) else none
      | .sl k off len cap => match hh k with
        | .cells cs ez => if (len + n) * bytes ≤ maxBytes ∧ len + n ≤ maxBytes then
            match cap with
            | some c => if c < len + n ∧ off + len * esz ≤ cs.length then
                some (.ok ⟨.sl nk 0 (len + n) none, [(nk, .cells ((cs.drop off).take (len * esz) ++ ys) esz)], k :: rd⟩) else none
            | none => if off = 0 ∧ cs.length = len * esz ∧ ez = esz ∧ !rd.contains k then
                some (.ok ⟨.sl nk 0 (len + n) none, [(k, .dead), (nk, .cells (cs ++ ys) esz)], k :: rd⟩) else none
          else none
        | _ => none
      | _ => none
def v_copy (hh : Nat → VO) (e : Env) (esz : Nat) (x : Od) (y : Od) : Option Res := match sliceC hh esz (y.ev e) with
    | none => none
    | some (ys, n, rd) => match x.ev e with
      | .nils => some (.ok ⟨.int .i64 0, [], rd⟩)
      | .sl k off len _ => match hh k with
        | .cells cs ez => if off + len * esz ≤ cs.length ∧ !rd.contains k then
            some (.ok ⟨.int .i64 (min n len : Nat), [(k, .cells (setSeg cs off (ys.take (min n len * esz))) ez)], k :: rd⟩) else none
        | _ => none
      | _ => none
def v_clearM (hh : Nat → VO) (e : Env) (x : Od) : Option Res := match x.ev e with
    | .mp q => match hh q with
      | .map _ => some (.ok ⟨.tup [], [(q, .map [])], [q]⟩)
      | _ => none
    | .nilm => ok1 (.tup [])
    | _ => none
def v_clearS (hh : Nat → VO) (e : Env) (zero : List V) (esz : Nat) (x : Od) : Option Res := match x.ev e with
    | .nils => ok1 (.tup [])
    | .is [] _ => ok1 (.tup [])
    | .sl k off len _ => match hh k with
      | .cells cs ez => if off + len * esz ≤ cs.length then some (.ok ⟨.tup [], [(k, .cells (setSeg cs off (List.replicate len zero).flatten) ez)], [k]⟩) else none
      | _ => none
    | _ => none
def v_del (hh : Nat → VO) (e : Env) (ks : Bool) (m : Od) (k : Od) : Option Res := if keyOk ks (k.ev e) then
      match m.ev e with
      | .mp q => match hh q with
        | .map es => match findY (k.ev e) es 0 with
          | some (some (i, _)) => some (.ok ⟨.tup [], [(q, .map (es.eraseIdx i))], [q]⟩)
          | some none => some (.ok ⟨.tup [], [(q, .map es)], [q]⟩)
          | none => none
        | _ => none
      | _ => none
    else none
def v_mx (e : Env) (isMax : Bool) (l : List Od) : Option Res := match l with
    | [x, y] => match x.ev e, y.ev e with
      | .int k a, .int l b => if k = l then ok1 (.int k (if isMax then (if b > a then b else a) else (if b < a then b else a))) else none
      | a, b => match tmPair a b with
        | some (_, s, t) => (match Sy.dec (if isMax then .gtr else .lss) t s with
          | some r => ok1 (if r then b else a)
          | none => none)
        | none => none
    | _ => none
def v_pan (e : Env) (x : Od) : Option Res := match x.ev e with
    | .ifc t v => some (.pan (.ifc t v))
    | _ => none

def vop (call : Callf) (hh : Nat → VO) (nk : Nat) (e : Env) (o : VOp) : Option Res :=
  match o with
  | .mov x => v_mov e x
  | .pick c a b => v_pick e c a b
  | .new zero => v_new nk zero
  | .box x n => v_box nk e x n
  | .build zero parts => v_build e zero parts
  | .buildS zero len esz parts => v_buildS nk e zero len esz parts
  | .load agg a => v_load hh e agg a
  | .store n a x => v_store hh e n a x
  | .nilc x => v_nilc e x
  | .bin op kq x y => v_bin e op kq x y
  | .una op x => v_una e op x
  | .conv c x => v_conv hh e c x
  | .mkI t x => v_mkI e t x
  | .mkF f a b => v_mkF e f a b
  | .mkM  => v_mkM nk 
  | .mkS zero esz bytes len cap => v_mkS nk e zero esz bytes len cap
  | .slc str esz x lo hi mx => v_slc e str esz x lo hi mx
  | .fad off x => v_fad e off x
  | .fld off agg x => v_fld e off agg x
  | .iad esz arr x i => v_iad e esz arr x i
  | .idx arr x i => v_idx e arr x i
  | .look ks zero ok m k => v_look hh e ks zero ok m k
  | .mset ks m k x => v_mset hh e ks m k x
  | .rng x => v_rng nk e x
  | .nxt x => v_nxt hh e x
  | .tas t zero ok x => v_tas e t zero ok x
  | .ext x i => v_ext e x i
  | .call f args => v_call call hh nk e f args
  | .calld f args => v_calld call hh nk e f args
  | .len kd x => v_len hh e kd x
  | .app esz bytes x y => v_app hh nk e esz bytes x y
  | .copy esz x y => v_copy hh e esz x y
  | .clearM x => v_clearM hh e x
  | .clearS zero esz x => v_clearS hh e zero esz x
  | .del ks m k => v_del hh e ks m k
  | .mx isMax l => v_mx e isMax l
  | .pan x => v_pan e x

/-! Regions. -/
def applyU (h : List VO) : List (Nat × VO) → List VO
  | [] => h
  | (k, o) :: r => applyU (if k < h.length then h.set k o else h ++ [o]) r
def chkU : Nat → List (Nat × VO) → Bool
  | _, [] => true
  | n, (k, _) :: r => if k < n then chkU n r else k == n && chkU (n + 1) r
structure St where
  env : Env
  heap : List VO
  ws : List Nat
  deriving Inhabited
def addWs (m0 : Nat) (ws : List Nat) : List (Nat × VO) → List Nat
  | [] => ws
  | (k, _) :: r => addWs m0 (if k < m0 ∧ !ws.contains k then k :: ws else ws) r
inductive Ex where
  | normal
  | exit (id : Nat)
  | goto (l : Nat)
  | ret
  | pan (v : V)
  deriving Inhabited

def putE (e : Env) (d : Option Nat) (v : V) : Env :=
  match d with
  | some d => (d, v) :: e
  | none => e
def wantedV (e : Env) (g : Option (Nat × Bool)) : Option Bool :=
  match g with
  | none => some true
  | some (t, b) => match e.get t with
    | .bool c => some (c == b)
    | .tup _ => some false
    | _ => none
def disj (a b : List Nat) : Bool := a.all (!b.contains ·)
def compat (a b : List Nat × List Nat) : Bool := disj a.2 (b.1 ++ b.2) && disj b.2 a.1

/-- What a call that throws may have touched. -/
def harm (h : Nat → VO) (e : Env) : VOp → List Nat
  | .call _ args => reach h 2000 (V.refs.refsL (args.map (·.ev e))) []
  | .calld f args => match f.ev e with
    | .fn _ a b => reach h 2000 (V.refs.refsL (a ++ args.map (·.ev e) ++ b)) []
    | _ => []
  | _ => []
def kill (h : List VO) (m : List Nat) : List VO := (List.range h.length).map fun k => if m.contains k then .dead else h.getD k .dead
def killS (m0 : Nat) (s : St) (m : List Nat) : St := ⟨s.env, kill s.heap m, m.filter (fun k => decide (k < m0)) ++ s.ws⟩

/-- A region, in the order of its text; the log (newest first) holds what each operation read and wrote. -/
def runR (call : Callf) (m0 : Nat) (draw : Bool) : List VOper → Nat → List (List Nat × List Nat) → St → Option (Ex × St)
  | [], _, _, s => some (.normal, s)
  | o :: r, i, log, s =>
    match wantedV s.env o.guard with
    | none => none
    | some false => runR call m0 draw r (i + 1) (([], []) :: log) { s with env := putE s.env o.dst (.tup []) }
    | some true => match vop call (fun k => s.heap.getD k .dead) s.heap.length s.env o.op with
      | none => none
      | some (.pan v) => if !draw || o.lone then some (.pan v, killS m0 s (harm (fun k => s.heap.getD k .dead) s.env o.op)) else none
      | some (.ok rc) =>
        if chkU s.heap.length rc.upd && rc.rd.all (· < s.heap.length) && (!draw || o.un.all (fun j => compat (log.getD (i - 1 - j) ([], [])) (rc.rd, rc.upd.map (·.1)))) then
          runR call m0 draw r (i + 1) ((rc.rd, rc.upd.map (·.1)) :: log) ⟨putE s.env o.dst rc.val, applyU s.heap rc.upd, addWs m0 s.ws rc.upd⟩
        else none

/-- What is not reached is let go; numbers are given anew behind the first m0. -/
def gcA (m0 : Nat) (live : List Nat) (s : St) : Option St :=
  let e := live.map fun t => (t, s.env.get t)
  let roots := V.refs.refsL (e.map (·.2)) ++ (s.heap.take m0).flatMap VO.refs
  let m := reach (fun k => s.heap.getD k .dead) 2000 roots (List.range m0)
  if closed (fun k => s.heap.getD k .dead) m roots then
    some ⟨e.map fun p => (p.1, p.2.ren fun k => m.idxOf k), m.map fun k => (s.heap.getD k .dead).ren fun k => m.idxOf k, s.ws⟩
  else none

/-- Where no temporary is named nothing is let go. -/
def gcS (m0 : Nat) (live : List Nat) (s : St) : Option St :=
  if live.isEmpty then some s
  else if !(live.headD 0 == 999999) && Nat.ble s.heap.length (m0 + 64) then some ⟨live.map fun t => (t, s.env.get t), s.heap, s.ws⟩
  else gcA m0 live s

def iter (body : St → Option (Ex × St)) (gc : St → Option St) : Nat → St → Option (Ex × St)
  | 0, _ => none
  | n + 1, s => match gc s with
    | none => none
    | some s => match body s with
      | none => none
      | some (.normal, s') => iter body gc n s'
      | r => r

def run (call : Callf) (n m0 : Nat) : VC → St → Option (Ex × St)
  | .skip, s => some (.normal, s)
  | .reg ops draw, s => runR call m0 draw ops 0 [] s
  | .seq a b, s => match run call n m0 a s with
    | some (.normal, s') => run call n m0 b s'
    | r => r
  | .cond c a b, s => match c.ev s.env with
    | .bool true => run call n m0 a s
    | .bool false => run call n m0 b s
    | _ => none
  | .block id c, s => match run call n m0 c s with
    | some (.exit i, s') => if i = id then some (.normal, s') else some (.exit i, s')
    | r => r
  | .loop live c, s => iter (run call n m0 c) (gcS m0 live) n s
  | .exit id, s => some (.exit id, s)
  | .scope c l rest, s => match run call n m0 c s with
    | some (.goto i, s') => if l = some i then (match run call n m0 rest s' with
        | some (.goto _, _) => none
        | r => r) else none
    | r => r
  | .goto l, s => some (.goto l, s)
  | .ret, s => some (.ret, s)

/-! Calls. -/
def chunk (esz : Nat) : Nat → List V → List (List V)
  | 0, _ => []
  | n + 1, cs => cs.take esz :: chunk esz n (cs.drop esz)
def frz (h : List VO) (m0 : Nat) : Nat → V → Option V
  | 0, _ => none
  | n + 1, v => match v with
    | .ptr k off => if k < m0 then none else match h.getD k .dead with
      | .cells cs _ => ((cs.drop off).mapM (frz h m0 n)).map .ip
      | _ => none
    | .sl k off len cap => if k < m0 then none else match h.getD k .dead with
      | .cells cs esz => if off + len * esz ≤ cs.length then ((chunk esz len (cs.drop off)).mapM fun (c : List V) => c.mapM (frz h m0 n)).map fun xs => .is xs (cap == some len) else none
      | _ => none
    | .mp k => if k < m0 then none else match h.getD k .dead with
      | .map es => (es.mapM fun (p : V × V) => do pure (← frz h m0 n p.1, ← frz h m0 n p.2)).map .im
      | _ => none
    | .fn f a b => do pure (.fn f (← a.mapM (frz h m0 n)) (← b.mapM (frz h m0 n)))
    | .ifc t v => (frz h m0 n v).map (.ifc t)
    | .agg cs => (cs.mapM (frz h m0 n)).map .agg
    | .tup cs => (cs.mapM (frz h m0 n)).map .tup
    | .un => none
    | v => some v

def resV (s : St) : List RV → Option (List V)
  | [] => some []
  | .tmp t :: r => (resV s r).map (s.env.get t :: ·)
  | .cell t agg :: r => match loadC (fun k => s.heap.getD k .dead) (s.env.get t) (agg.getD 1) with
    | some (cs, _) => match shapeOf agg cs, resV s r with
      | some v, some vs => some (v :: vs)
      | _, _ => none
    | none => none
def resOne : List V → V
  | [v] => v
  | vs => .tup vs

/-- What package-level variables hold, as far as it is known. -/
def first256 : List Nat := List.replicate 128 240 ++ List.replicate 66 241 ++ List.replicate 30 2 ++ [19] ++ List.replicate 12 3 ++ [35] ++ List.replicate 2 3 ++ [52] ++ List.replicate 3 4 ++ [68] ++ List.replicate 11 241
def accept32 : List Nat := [128, 191, 160, 191, 128, 159, 144, 191, 128, 143] ++ List.replicate 22 0
def globT : Nat → V
  | _ => .un

structure Ctx where
  code : FuncId → Option VF
  nat : FuncId → Option (Callf → List V → List VO → Option CRes)
  keep : FuncId → Nat
  memo : FuncId → List V → List VO → Option CRes

def envOf : Nat → List V → Env
  | _, [] => []
  | i, v :: r => (i, v) :: envOf (i + 1) r

def gcEnd (m0 : Nat) (s : St) (v : V) : Option CRes :=
  let roots := v.refs ++ (s.heap.take m0).flatMap VO.refs
  let m := reach (fun k => s.heap.getD k .dead) 2000 roots (List.range m0)
  if closed (fun k => s.heap.getD k .dead) m roots then
    some (.ok (v.ren fun k => m.idxOf k) (m.map fun k => (s.heap.getD k .dead).ren fun k => m.idxOf k) s.ws)
  else none
/-- 0: what is handed back is frozen; 1: it is not; 2: all stays. -/
def finish (keep : Nat) (m0 : Nat) (s : St) (v : V) : Option CRes :=
  if keep == 2 then some (.ok v s.heap s.ws)
  else if keep == 1 || !((s.heap.take m0).flatMap VO.refs).all (· < m0) then gcEnd m0 s v
  else match frz s.heap m0 200 v with
    | some v => some (.ok v (s.heap.take m0) s.ws)
    | none => gcEnd m0 s v

def callN (C : Ctx) : Nat → Callf
  | 0, _, _, _ => none
  | n + 1, f, args, h =>
    match C.memo f args h with
    | some r => some r
    | none => match C.nat f with
    | some g => g (callN C n) args h
    | none => match C.code f with
      | none => none
      | some vf => match run (callN C n) n h.length vf.body ⟨envOf 0 args, h, []⟩ with
        | some (.pan v, _) => some (.pan v)
        | some (.normal, s) | some (.ret, s) => match resV s vf.results with
          | some vs => finish (C.keep f) h.length s (resOne vs)
          | none => none
        | _ => none

end
end Go.Pv
namespace Go.Pv
variable [Sy]

def ofVal1 : Value → Option V
  | .bool b => some (.bool b)
  | .int k n => some (.int k n)
  | .string s => some (.str s.data.toList)
  | .pointer none => some .nilp
  | .slice none 0 0 => some .nils
  | .map none => some .nilm
  | .nilFunc => some .nilf
  | .nilIface => some .nili
  | _ => none
def ofVals : List Value → Option (List V)
  | [] => some []
  | v :: r => match ofVal1 v, ofVals r with
    | some x, some xs => some (x :: xs)
    | _, _ => none
def ofVal : Value → Option V
  | .agg cs => (ofVals cs.toList).map .agg
  | v => ofVal1 v

def odOf : Operand → Option Od
  | .tmp t => some (.t t)
  | .const v => (ofVal v).map .c
  | .func f => some (.c (.fn f [] []))
  | .global k => some (.c (globT k))
def odsOf : List Operand → Option (List Od)
  | [] => some []
  | x :: r => match odOf x, odsOf r with
    | some a, some b => some (a :: b)
    | _, _ => none
def odOpt : Option Operand → Option (Option Od)
  | none => some none
  | some x => (odOf x).map some

variable (P : Program)
def szOf (t : TypeId) : Option Nat := (P.info? t).map (·.size)
def aggOf (t : TypeId) : Option (Option Nat) :=
  match P.underlying t with
  | some (.struct _) | some (.array _ _) => (szOf P t).map some
  | some _ => some none
  | none => none
def zeroOf (t : TypeId) : Option (List V) := match (P.info? t).bind (·.zero) with
  | some z => ofVals z.cells.toList
  | none => none
def zero1 (t : TypeId) : Option V := match (P.info? t).bind (·.zero) with
  | some z => ofVal z
  | none => none

/-- A struct type all of whose cells are numbers, bools and strings: their kinds. -/
def flatKs (p : TypeId → Option (List CK)) : Nat → List Field → Option Nat → Option (List CK)
  | n, [], s => if s = some n then some [] else none
  | n, f :: r, s => match p f.type, szOf P f.type with
    | some ks, some k => if f.name ≠ "_" ∧ f.offset = n ∧ ks.length = k then (flatKs p (n + k) r s).map (ks ++ ·) else none
    | _, _ => none
def flatK : Nat → TypeId → Option (List CK)
  | 0, _ => none
  | d + 1, t => match P.underlying t with
    | some .bool => if szOf P t = some 1 then some [.bool] else none
    | some (.int _) => if szOf P t = some 1 then some [.int] else none
    | some .string => if szOf P t = some 1 then some [.str] else none
    | some (.struct fs) => if P.stoodInHeld t then none else flatKs P (flatK d) 0 fs.toList (szOf P t)
    | _ => none

def isConst : Operand → Bool
  | .const _ => true
  | _ => false
def eqOk (t : TypeId) (x y : Operand) : EqK :=
  match P.underlying t with
  | some (.int _) | some .string => .num
  | some .bool => .bool
  | some (.pointer _) => .ptr
  | some (.interface _) => if isConst x || isConst y then .ifc else .no
  | some (.struct _) => match flatK P 8 t with
    | some ks => if P.eqGuardType P.depth t then .no else .agg ks
    | none => .no
  | _ => .no

def placesOf (fs : Array Field) : Option (List (Nat × Nat)) := fs.toList.mapM fun f => (P.info? f.type).map fun i => (f.offset, i.size)
def partsF (pl : List (Nat × Nat)) : List (Nat × Operand) → Option (List (Nat × Nat × Od))
  | [] => some []
  | (i, x) :: r => match pl[i]?, odOf x, partsF pl r with
    | some p, some a, some l => some ((p.1, p.2, a) :: l)
    | _, _, _ => none
def partsA (n : Nat) : List (Nat × Operand) → Option (List (Nat × Nat × Od))
  | [] => some []
  | (i, x) :: r => match odOf x, partsA n r with
    | some a, some l => some ((i * n, n, a) :: l)
    | _, _ => none

def isU8 (t : TypeId) : Bool := match P.underlying t with | some (.int .u8) => true | _ => false

def stripCall (c : Call) : Option VOp :=
  match c.callee with
  | .value (.func f) => (odsOf c.args.toList).map (.call f)
  | .value f => match odOf f, odsOf c.args.toList with
    | some f, some l => some (.calld f l)
    | _, _ => none
  | .builtin .len => match c.args.toList, c.argTypes.toList with
    | [x], [t] => match P.underlying t, odOf x with
      | some .string, some x => some (.len 0 x)
      | some (.slice _), some x => some (.len 1 x)
      | some (.map _ _), some x => some (.len 2 x)
      | _, _ => none
    | _, _ => none
  | .builtin .append => match c.args.toList, c.argTypes.toList with
    | [x, y], [t, u] => match P.underlying t, P.underlying u, odOf x, odOf y with
      | some (.slice e), some (.slice _), some x, some y | some (.slice e), some .string, some x, some y => match szOf P e, zeroOf P e, P.info? e with
        | some n, some z, some i => if z.length = n ∧ 0 < n then some (.app n i.bytes x y) else none
        | _, _, _ => none
      | _, _, _, _ => none
    | _, _ => none
  | .builtin .copy => match c.args.toList, c.argTypes.toList with
    | [x, y], [t, _] => match P.underlying t, odOf x, odOf y with
      | some (.slice e), some x, some y => (szOf P e).map fun n => .copy n x y
      | _, _, _ => none
    | _, _ => none
  | .builtin .clear => match c.args.toList, c.argTypes.toList with
    | [x], [t] => match P.underlying t, odOf x with
      | some (.map _ _), some x => some (.clearM x)
      | some (.slice e), some x => match szOf P e, zeroOf P e with
        | some n, some z => if z.length = n ∧ 0 < n then some (.clearS z n x) else none
        | _, _ => none
      | _, _ => none
    | _, _ => none
  | .builtin .delete => match c.args.toList, c.argTypes.toList with
    | [m, k], t :: _ => match P.underlying t, odOf m, odOf k with
      | some (.map kt _), some m, some k => match P.underlying kt with
        | some (.int _) => some (.del false m k)
        | some .string => some (.del true m k)
        | _ => none
      | _, _, _ => none
    | _, _ => none
  | .builtin .max => (odsOf c.args.toList).map (.mx true)
  | .builtin .min => (odsOf c.args.toList).map (.mx false)
  | _ => none

def stripOp (o : Oper) : Option VOp :=
  match o.op with
  | .move x | .assign x => (odOf x).map .mov
  | .pick c a b => match odOf c, odOf a, odOf b with
    | some c, some a, some b => some (.pick c a b)
    | _, _, _ => none
  | .alloc t => (zeroOf P t).map .new
  | .box t x => match odOf x, szOf P t with
    | some x, some n => some (.box x n)
    | _, _ => none
  | .build t parts => match P.underlying t, zeroOf P t with
    | some (.struct fs), some z => match placesOf P fs with
      | some pl => (partsF pl parts.toList).map (.build z)
      | none => none
    | some (.array _ e), some z => match szOf P e with
      | some n => (partsA n parts.toList).map (.build z)
      | none => none
    | _, _ => none
  | .buildSlice t len parts => match P.underlying t with
    | some (.slice e) => match szOf P e, zeroOf P e with
      | some n, some z => if len * n ≤ 2 ^ 20 ∧ z.length = n ∧ 0 < n then (partsA n parts.toList).map (.buildS (List.replicate len z).flatten len n) else none
      | _, _ => none
    | _ => none
  | .load t a => match aggOf P t, odOf a with
    | some g, some a => some (.load g a)
    | _, _ => none
  | .store t a x => match szOf P t, odOf a, odOf x with
    | some n, some a, some x => some (.store n a x)
    | _, _, _ => none
  | .nilCheck x => (odOf x).map .nilc
  | .binOp op t x y _ => match odOf x, odOf y with
    | some a, some b => some (.bin op (eqOk P t x y) a b)
    | _, _ => none
  | .unOp op _ x => (odOf x).map (.una op)
  | .convert s d x => match P.underlying s, P.underlying d, odOf x with
    | some (.int _), some (.int k), some x => some (.conv (.int k) x)
    | some .string, some .string, some x => some (.conv .same x)
    | some .string, some (.slice e), some x => if isU8 P e then some (.conv .s2b x) else none
    | some (.slice e), some .string, some x => if isU8 P e then some (.conv .b2s x) else none
    | _, _, _ => none
  | .makeInterface t x => match P.underlying t, odOf x with
    | some (.interface _), _ => none
    | some _, some x => some (.mkI t x)
    | _, _ => none
  | .makeFunc (.func f) a b => match odsOf a.toList, odsOf b.toList with
    | some a, some b => some (.mkF f a b)
    | _, _ => none
  | .makeMap t r => match P.underlying t, r with
    | some (.map _ _), none => some .mkM
    | _, _ => none
  | .makeSlice t l c => match P.underlying t, odOf l, odOf c with
    | some (.slice e), some l, some c => match szOf P e, zeroOf P e, P.info? e with
      | some n, some z, some i => if z.length = n ∧ 0 < n then some (.mkS z n i.bytes l c) else none
      | _, _, _ => none
    | _, _, _ => none
  | .slice t x lo hi mx => match P.underlying t, odOf x, odOpt lo, odOpt hi, odOpt mx with
    | some .string, some x, some lo, some hi, some none => some (.slc true 1 x lo hi none)
    | some (.slice e), some x, some lo, some hi, some mx => match szOf P e with
      | some n => if 0 < n ∧ (mx.isNone || hi.isSome) then some (.slc false n x lo hi mx) else none
      | none => none
    | _, _, _, _, _ => none
  | .fieldAddr s x f => match P.underlying s, odOf x with
    | some (.struct fs), some x => match fs[f]? with
      | some f => match szOf P f.type with
        | some n => if 0 < n then some (.fad f.offset x) else none
        | none => none
      | none => none
    | _, _ => none
  | .field s x f => match P.underlying s, odOf x with
    | some (.struct fs), some x => match fs[f]? with
      | some f => (aggOf P f.type).map fun g => .fld f.offset g x
      | none => none
    | _, _ => none
  | .indexAddr t x i => match P.underlying t, odOf x, odOf i with
    | some (.array n e), some x, some i => match szOf P e with
      | some k => if 2 ≤ n ∧ 0 < k then some (.iad k (some n) x i) else none
      | none => none
    | some (.slice e), some x, some i => match szOf P e with
      | some k => if 0 < k then some (.iad k none x i) else none
      | none => none
    | _, _, _ => none
  | .index t x i => match P.underlying t, odOf x, odOf i with
    | some (.array n e), some x, some i => match szOf P e, aggOf P e with
      | some k, some g => some (.idx (some (n, k, g)) x i)
      | _, _ => none
    | some .string, some x, some i => some (.idx none x i)
    | _, _, _ => none
  | .lookup t m k ok => match P.underlying t, odOf m, odOf k with
    | some (.map kt e), some m, some k => match P.underlying kt, zero1 P e with
      | some (.int _), some z => some (.look false z ok m k)
      | some .string, some z => some (.look true z ok m k)
      | _, _ => none
    | _, _, _ => none
  | .mapUpdate t m k x => match P.underlying t, odOf m, odOf k, odOf x with
    | some (.map kt _), some m, some k, some x => match P.underlying kt with
      | some (.int _) => some (.mset false m k x)
      | some .string => some (.mset true m k x)
      | _ => none
    | _, _, _, _ => none
  | .range t x => match P.underlying t, odOf x with
    | some .string, some x => some (.rng x)
    | _, _ => none
  | .next x true => (odOf x).map .nxt
  | .typeAssert x _ t ok => match P.underlying t, odOf x, zero1 P t with
    | some (.interface _), _, _ => none
    | some _, some x, some z => some (.tas t z ok x)
    | _, _, _ => none
  | .extract x i => (odOf x).map fun x => .ext x i
  | .panic x => (odOf x).map .pan
  | .call c => stripCall P c
  | _ => none

/-- Operations that read and write nothing but temporaries. -/
def VOp.pure : VOp → Bool
  | .mov _ | .pick .. | .build .. | .nilc _ | .bin .. | .una .. | .mkI .. | .mkF .. | .slc .. | .fad .. | .fld .. | .iad .. | .idx .. | .tas .. | .ext .. => true
  | .conv .b2s _ => false
  | .conv .. => true
  | _ => false

def stripOper (ops : Array Oper) (bef : Array Nat) (pur : List Bool) (i : Nat) (o : Oper) (nt : Nat) : Option VOper :=
  match stripOp P o with
  | none => none
  | some vo =>
    let g : Option (Option (Nat × Bool)) := match o.guard with
      | none => some none
      | some (j, b) => match (ops[j]?).bind (·.dst) with
        | some t => some (some (t, b))
        | none => none
    match g with
    | none => none
    | some g =>
      if o.dst.all (· < nt) then
        some { dst := o.dst, op := vo, guard := g,
               un := (List.range i).filter fun j => !vo.pure && !(pur.getD j true) && !(bef.getD i 0).testBit j,
               lone := (List.range ops.size).all fun j => j == i || (bef.getD (max i j) 0).testBit (min i j) }
      else none

def stripOps (ops : Array Oper) (bef : Array Nat) (nt : Nat) : List Oper → Nat → List Bool → Option (List VOper)
  | [], _, _ => some []
  | o :: r, i, pur => match stripOper P ops bef pur i o nt with
    | none => none
    | some v => match stripOps ops bef nt r (i + 1) (pur ++ [v.op.pure]) with
      | some l => some (v :: l)
      | none => none

def gotos : Code → List Nat
  | .seq a b | .cond _ a b => gotos a ++ gotos b
  | .block _ c | .loop c | .scope c => gotos c
  | .goto l => [l]
  | _ => []

/-- Which temporaries a piece of code may read before it writes them (a guess: nothing hangs on it). -/
def Od.tm : Od → List Nat
  | .t n => [n]
  | _ => []
def VOp.tm : VOp → List Nat
  | .mov x | .box x _ | .nilc x | .una _ x | .conv _ x | .mkI _ x | .fad _ x | .fld _ _ x | .rng x | .nxt x | .tas _ _ _ x | .ext x _ | .len _ x | .clearM x | .clearS _ _ x | .pan x | .load _ x => x.tm
  | .pick a b c | .mset _ a b c => a.tm ++ b.tm ++ c.tm
  | .build _ l | .buildS _ _ _ l => l.flatMap fun p => p.2.2.tm
  | .store _ a b | .bin _ _ a b | .mkS _ _ _ a b | .iad _ _ a b | .idx _ a b | .look _ _ _ a b | .app _ _ a b | .copy _ a b | .del _ a b => a.tm ++ b.tm
  | .mkF _ a b => a.flatMap (·.tm) ++ b.flatMap (·.tm)
  | .slc _ _ x a b c => x.tm ++ (a.map (·.tm)).getD [] ++ (b.map (·.tm)).getD [] ++ (c.map (·.tm)).getD []
  | .call _ l | .mx _ l => l.flatMap (·.tm)
  | .calld f l => f.tm ++ l.flatMap (·.tm)
  | .new _ | .mkM => []
def addAll (a b : List Nat) : List Nat := b.foldl (fun l x => if l.contains x then l else l ++ [x]) a
def liveOps (ops : List VOper) (out : List Nat) : List Nat :=
  ops.foldr (fun o l => addAll (addAll (match o.guard with | some (t, _) => [t] | none => []) o.op.tm) (match o.dst with | some d => l.filter (· != d) | none => l)) out
/-- live-in, given live-out, live at return, live at each block's end, at a goto -/
def live (rt : List Nat) : VC → List Nat → List (Nat × List Nat) → List Nat → List Nat
  | .skip, o, _, _ => o
  | .reg ops _, o, _, _ => liveOps ops o
  | .seq a b, o, bl, g => live rt a (live rt b o bl g) bl g
  | .cond c a b, o, bl, g => addAll c.tm (addAll (live rt a o bl g) (live rt b o bl g))
  | .block id c, o, bl, g => live rt c o ((id, o) :: bl) g
  | .loop l c, _, bl, g => if l.isEmpty then (let l1 := live rt c [] bl g; addAll l1 (live rt c l1 bl g)) else l
  | .exit id, _, bl, _ => (bl.lookup id).getD []
  | .scope c _ rest, o, bl, g => live rt c o bl (live rt rest o bl g)
  | .goto _, _, _, g => g
  | .ret, _, _, _ => rt
def setLive (rt : List Nat) : VC → List Nat → List (Nat × List Nat) → List Nat → VC
  | .seq a b, o, bl, g => .seq (setLive rt a (live rt b o bl g) bl g) (setLive rt b o bl g)
  | .cond c a b, o, bl, g => .cond c (setLive rt a o bl g) (setLive rt b o bl g)
  | .block id c, o, bl, g => .block id (setLive rt c o ((id, o) :: bl) g)
  | .loop _ c, _, bl, g =>
    let l1 := live rt c [] bl g
    let l2 := addAll l1 (live rt c l1 bl g)
    .loop l2 (setLive rt c l2 bl g)
  | .scope c l rest, o, bl, g => let r := live rt rest o bl g; .scope (setLive rt c o bl r) l (setLive rt rest o bl g)
  | c, _, _, _ => c

/-- Two operations that are not ordered share no temporary; an edge that binds comes from in front. -/
def VOper.reads (o : VOper) : List Nat := (match o.guard with | some (t, _) => [t] | none => []) ++ o.op.tm
def apartT (a b : VOper) : Bool :=
  (match a.dst with | some t => !b.reads.contains t && b.dst != some t | none => true) && (match b.dst with | some t => !a.reads.contains t | none => true)
def chkR (ops : Array Oper) (l : List VOper) : Bool :=
  (ops.toList.zipIdx.all fun p => p.1.after.all fun e => !Region.binds .any e || decide (e.on < p.2)) &&
  (l.zipIdx.all fun p => l.zipIdx.all fun q => !(decide (q.2 < p.2)) || ((Region.before ops).getD p.2 0).testBit q.2 || apartT p.1 q.1)

def stripC (nt : Nat) : Code → Option VC
  | .skip => some .skip
  | .region _ ops draw => match stripOps P ops (Region.before ops) nt ops.toList 0 [] with
    | some l => if !draw || chkR ops l then some (.reg l draw) else none
    | none => none
  | .seq a b => match stripC nt a, stripC nt b with
    | some a, some b => some (.seq a b)
    | _, _ => none
  | .cond c a b => match odOf c, stripC nt a, stripC nt b with
    | some c, some a, some b => some (.cond c a b)
    | _, _, _ => none
  | .block id c => (stripC nt c).map (.block id)
  | .loop c => (stripC nt c).map (.loop [])
  | .exit id => some (.exit id)
  | .ret => some .ret
  | .goto l => some (.goto l)
  | .label _ => some .skip
  | .scope c => match gotos c with
    | [] => (stripC nt c).map fun c => .scope c none .skip
    | [l] => match stripC nt c, stripL nt c l with
      | some c, some (some r) => some (.scope c (some l) r)
      | _, _ => none
    | _ => none
  | _ => none
where
  /-- the code behind a label, if it is there -/
  stripL (nt : Nat) : Code → Nat → Option (Option VC)
  | .seq a b, l => match stripL nt a l with
    | some (some r) => (stripC nt b).map fun b => some (.seq r b)
    | some none => stripL nt b l
    | none => none
  | .label l', l => some (if l' == l then some .skip else none)
  | _, _ => some none

def stripR : List ResultVar → Option (List RV)
  | [] => some []
  | .tmp t :: r => (stripR r).map (.tmp t :: ·)
  | .cell t ty :: r => match aggOf P ty, stripR r with
    | some g, some l => some (.cell t g :: l)
    | _, _ => none
def stripF (fn : Func) : Option VF :=
  match fn.body with
  | none => none
  | some c => match stripC P fn.ntmps c, stripR P fn.results.toList with
    | some c, some r =>
      let rt := r.map fun | .tmp t => t | .cell t _ => t
      some ⟨setLive rt c rt [] [], r⟩
    | _, _ => none
/-- Where nothing is let go. -/
def stripF0 (fn : Func) : Option VF :=
  match fn.body with
  | none => none
  | some c => match stripC P fn.ntmps c, stripR P fn.results.toList with
    | some c, some r => some ⟨c, r⟩
    | _, _ => none
/-- Where what is not reached is let go in each round. -/
def markGc : VC → VC
  | .seq a b => .seq (markGc a) (markGc b)
  | .cond c a b => .cond c (markGc a) (markGc b)
  | .block id c => .block id (markGc c)
  | .loop l c => .loop (999999 :: l) (markGc c)
  | .scope c l r => .scope (markGc c) l (markGc r)
  | c => c
def stripF1 (fn : Func) : Option VF := (stripF P fn).map fun v => ⟨markGc v.body, v.results⟩
end Go.Pv
namespace Go.Pv
variable [Sy]

structure G where
  D : Nat → Prop
  X : Nat → Prop
  B : Nat → Nat
  C : Nat → Nat
  h : Nat → VO

def VO.alive : VO → Prop
  | .dead => False
  | _ => True
def G.O (g : G) (b : Nat) : Prop := g.X b ∨ ∃ k, (g.h k).alive ∧ g.B k = b

/-- What a value of the machine is in the model. The Bool: may it lead to what is owned? -/
inductive VR (g : G) (w : World) : Bool → V → Value → Prop
  | un (u : Value) : VR g w true .un u
  | bool (r : Bool) (b : Bool) : VR g w r (.bool b) (.bool b)
  | int (r : Bool) (k : IntKind) (n : Int) : VR g w r (.int k n) (.int k n)
  | str (r : Bool) (s : List UInt8) : VR g w r (.str s) (.string ⟨s.toArray⟩)
  | nilp (r : Bool) : VR g w r .nilp (.pointer none)
  | ptr (k off : Nat) (hD : g.D k) : VR g w true (.ptr k off) (.pointer (some ⟨g.B k, off, none⟩))
  | ip (r : Bool) (cs : List V) (us : List Value) (a : Addr) (hl : us.length = cs.length)
      (h1 : ∀ u ∈ us, u.oneCell' = true)
      (hc : ∀ (j : Nat) (u : Value), us[j]? = some u → ¬ g.O a.block ∧ w.cell? (a.add j) = some u)
      (hr : ∀ (j : Nat) (c : V) (u : Value), cs[j]? = some c → us[j]? = some u → VR g w false c u) : VR g w r (.ip cs) (.pointer (some a))
  | nils (r : Bool) : VR g w r .nils (.slice none 0 0)
  | sl (k off len : Nat) (cap : Option Nat) (c : Nat) (hD : g.D k) (hc : ∀ x, cap = some x → c = x) (hn : cap = none → off = 0 → c = g.C k) (hl : len ≤ c) :
      VR g w true (.sl k off len cap) (.slice (some ⟨g.B k, off, none⟩) len c)
  | is (r : Bool) (xs : List (List V)) (clip : Bool) (us : List Value) (esz : Nat) (a : Option Addr) (c : Nat)
      (he : ∀ x ∈ xs, x.length = esz) (hl : us.length = xs.flatten.length) (hcap : xs.length ≤ c) (hclip : clip = true → c = xs.length)
      (h1 : ∀ u ∈ us, u.oneCell' = true)
      (hc : ∀ (j : Nat) (u : Value), us[j]? = some u → ∃ ad, a = some ad ∧ ¬ g.O ad.block ∧ w.cell? (ad.add j) = some u)
      (hr : ∀ (j : Nat) (c : V) (u : Value), xs.flatten[j]? = some c → us[j]? = some u → VR g w false c u) : VR g w r (.is xs clip) (.slice a xs.length c)
  | nilm (r : Bool) : VR g w r .nilm (.map none)
  | mp (k : Nat) (hD : g.D k) : VR g w true (.mp k) (.map (some (g.B k)))
  | im (r : Bool) (es : List (V × V)) (q : Nat) (arr : Array MapEntry) (ck : Nat) (hO : ¬ g.O q) (hw : w.heap[q]? = some (.map arr ck)) (hl : arr.size = es.length)
      (hk : ∀ (j : Nat) (e : V × V) (m : MapEntry), es[j]? = some e → arr[j]? = some m → VR g w false e.1 m.key)
      (hv : ∀ (j : Nat) (e : V × V) (m : MapEntry), es[j]? = some e → arr[j]? = some m → VR g w false e.2 m.val) : VR g w r (.im es) (.map (some q))
  | fn (r : Bool) (f : FuncId) (a b : List V) (A A' : Array Value) (hl : A.size = a.length) (hl' : A'.size = b.length)
      (ha : ∀ (j : Nat) (x : V) (u : Value), a[j]? = some x → A[j]? = some u → VR g w r x u)
      (hb : ∀ (j : Nat) (x : V) (u : Value), b[j]? = some x → A'[j]? = some u → VR g w r x u) : VR g w r (.fn f a b) (.func (.func f) A A')
  | nilf (r : Bool) : VR g w r .nilf .nilFunc
  | ifc (r : Bool) (t : TypeId) (v : V) (u : Value) (h : VR g w r v u) : VR g w r (.ifc t v) (.iface t u)
  | nili (r : Bool) : VR g w r .nili .nilIface
  | agg (r : Bool) (cs : List V) (U : Array Value) (hl : U.size = cs.length) (h1 : ∀ u ∈ U, u.oneCell' = true)
      (ha : ∀ (j : Nat) (x : V) (u : Value), cs[j]? = some x → U[j]? = some u → VR g w r x u) : VR g w r (.agg cs) (.agg U)
  | tup (r : Bool) (cs : List V) (U : Array Value) (hl : U.size = cs.length) (ha : ∀ (j : Nat) (x : V) (u : Value), cs[j]? = some x → U[j]? = some u → VR g w r x u) : VR g w r (.tup cs) (.tuple U)
  | tm (r : Bool) (k : IntKind) (t : Tm) : VR g w r (.tm k t) (.int k t.ev)
  | ct (r : Bool) (ch : List Ch) : VR g w r (.ct ch) (.string ⟨(chev ch).toArray⟩)
  | cb (r : Bool) (ch : List Ch) (u : Value) (h : VR g w r (.is (bytesL (chev ch)) false) u) : VR g w r (.cb ch) u
  | it (r : Bool) (xs rest : List (List V)) (k : Nat) (u : Value) (h : VR g w r (.is (xs ++ rest) false) u) (hk : Sy.val k = ((xs ++ rest).length : Int)) : VR g w r (.it xs k) u
  | iv (r : Bool) (k : IntKind) (id n ix el : Nat) (u : Value) (h : VR g w r (.is ((Sy.lists id).map fun z => [V.int k z]) false) u) (hn : Sy.val n = ((Sy.lists id).length : Int)) (he : ∀ j : Nat, Sy.val ix = j → j < (Sy.lists id).length → (Sy.lists id)[j]? = some (Sy.val el)) : VR g w r (.iv k id n ix el) u

theorem VR.up {g : G} {w : World} {r : Bool} {v : V} {u : Value} (h : VR g w r v u) : VR g w true v u := by
  induction h with
  | un u => exact .un u
  | bool r b => exact .bool _ b
  | int r k n => exact .int _ k n
  | str r s => exact .str _ s
  | nilp r => exact .nilp _
  | ptr k off hD => exact .ptr k off hD
  | ip r cs us a hl h1 hc hr _ => exact .ip _ cs us a hl h1 hc hr
  | nils r => exact .nils _
  | sl k off len cap c hD hc hn hl => exact .sl k off len cap c hD hc hn hl
  | is r xs clip us esz a c he hl hcap hclip h1 hc hr _ => exact .is _ xs clip us esz a c he hl hcap hclip h1 hc hr
  | nilm r => exact .nilm _
  | mp k hD => exact .mp k hD
  | im r es q arr ck hO hw hl hk hv _ _ => exact .im _ es q arr ck hO hw hl hk hv
  | fn r f a b A A' hl hl' ha hb iha ihb => exact .fn _ f a b A A' hl hl' iha ihb
  | nilf r => exact .nilf _
  | ifc r t v u h ih => exact .ifc _ t v u ih
  | nili r => exact .nili _
  | agg r cs U hl h1 ha ih => exact .agg _ cs U hl h1 ih
  | tup r cs U hl ha ih => exact .tup _ cs U hl ih
  | tm r k t => exact .tm _ k t
  | ct r ch => exact .ct _ ch
  | cb r ch u h ih => exact .cb _ ch u ih
  | it r xs rest k u h hk ih => exact .it _ xs rest k u ih hk
  | iv r k id n ix el u h hn he ih => exact .iv _ k id n ix el u ih hn he

/-- From (g, w) on to (g', w'): what is not owned stays and is not owned; the owned ones keep their blocks. -/
structure Step (g : G) (w : World) (g' : G) (w' : World) : Prop where
  stay : ∀ b, ¬ g.O b → b < w.heap.size → ¬ g'.O b ∧ w'.heap[b]? = w.heap[b]?

theorem cell_lt {w : World} {a : Addr} {u : Value} (h : w.cell? a = some u) : a.block < w.heap.size := block_lt_of_cell h
theorem add_block (a : Addr) (n : Nat) : (a.add n).block = a.block := by unfold Addr.add; split <;> rfl
theorem cell_of_heap {w w' : World} {a : Addr} (h : w'.heap[a.block]? = w.heap[a.block]?) : w'.cell? a = w.cell? a := World.cell?_of_block h

theorem Step.cell {g g' : G} {w w' : World} (s : Step g w g' w') {a : Addr} {j : Nat} {u : Value} (h : ¬ g.O a.block ∧ w.cell? (a.add j) = some u) :
    ¬ g'.O a.block ∧ w'.cell? (a.add j) = some u := by
  have hlt := cell_lt h.2
  rw [add_block] at hlt
  obtain ⟨h1, h2⟩ := s.stay _ h.1 hlt
  exact ⟨h1, by rw [cell_of_heap (w := w) (by rw [add_block]; exact h2)]; exact h.2⟩

theorem heap_lt {w : World} {q : Nat} {o : Obj} (h : w.heap[q]? = some o) : q < w.heap.size := by
  rcases Nat.lt_or_ge q w.heap.size with h' | h'
  · exact h'
  · rw [Array.getElem?_eq_none h'] at h; cases h

theorem getL_ren {f : Nat → Nat} : ∀ {l : List V} {j : Nat} {x : V}, (V.ren.renL f l)[j]? = some x → ∃ y, l[j]? = some y ∧ x = y.ren f
  | [], j, x, h => by simp [V.ren.renL] at h
  | v :: l, 0, x, h => by simp [V.ren.renL] at h; exact ⟨v, rfl, h.symm⟩
  | v :: l, j + 1, x, h => by
    simp only [V.ren.renL, List.getElem?_cons_succ] at h ⊢
    exact getL_ren h
theorem len_renL {f : Nat → Nat} : ∀ (l : List V), (V.ren.renL f l).length = l.length
  | [] => rfl
  | _ :: l => by simp [V.ren.renL, len_renL l]
theorem refsL_mem {l : List V} {j : Nat} {x : V} (h : l[j]? = some x) : ∀ k ∈ x.refs, k ∈ V.refs.refsL l := by
  induction l generalizing j with
  | nil => simp at h
  | cons v l ih =>
    intro k hk
    cases j with
    | zero => simp at h; subst h; simp [V.refs.refsL, hk]
    | succ j => simp at h; simp [V.refs.refsL, ih h k hk]

theorem VR.stay {g g' : G} {w w' : World} {r : Bool} {v : V} {u : Value} (h : VR g w r v u) (s : Step g w g' w') : r = false → VR g' w' false v u := by
  induction h with
  | un u => intro e; cases e
  | bool r b => intro _; exact .bool _ b
  | int r k n => intro _; exact .int _ k n
  | str r s => intro _; exact .str _ s
  | nilp r => intro _; exact .nilp _
  | ptr k off hD => intro e; cases e
  | ip r cs us a hl h1 hc hr ih => intro _; exact .ip _ cs us a hl h1 (fun j u hu => s.cell (hc j u hu)) (fun j c u q1 q2 => ih j c u q1 q2 rfl)
  | nils r => intro _; exact .nils _
  | sl k off len cap c hD hc hn hl => intro e; cases e
  | is r xs clip us esz a c he hl hcap hclip h1 hc hr ih =>
    intro _
    exact .is _ xs clip us esz a c he hl hcap hclip h1 (fun j u hu => by
      obtain ⟨ad, e, q1, q2⟩ := hc j u hu
      have := s.cell ⟨q1, q2⟩
      exact ⟨ad, e, this.1, this.2⟩) (fun j c u q1 q2 => ih j c u q1 q2 rfl)
  | nilm r => intro _; exact .nilm _
  | mp k hD => intro e; cases e
  | im r es q arr ck hO hw hl hk hv ihk ihv =>
    intro _
    obtain ⟨h1, h2⟩ := s.stay q hO (heap_lt hw)
    exact .im _ es q arr ck h1 (h2.trans hw) hl (fun j e m h h' => ihk j e m h h' rfl) (fun j e m h h' => ihv j e m h h' rfl)
  | fn r f a b A A' hl hl' ha hb iha ihb => intro e; exact .fn _ f a b A A' hl hl' (fun j x u h h' => iha j x u h h' e) (fun j x u h h' => ihb j x u h h' e)
  | nilf r => intro _; exact .nilf _
  | ifc r t v u h ih => intro e; exact .ifc _ t v u (ih e)
  | nili r => intro _; exact .nili _
  | agg r cs U hl h1 ha ih => intro e; exact .agg _ cs U hl h1 (fun j x u h h' => ih j x u h h' e)
  | tup r cs U hl ha ih => intro e; exact .tup _ cs U hl (fun j x u h h' => ih j x u h h' e)
  | tm r k t => intro _; exact .tm _ k t
  | ct r ch => intro _; exact .ct _ ch
  | cb r ch u h ih => intro e; exact .cb _ ch u (ih e)
  | it r xs rest k u h hk ih => intro e; exact .it _ xs rest k u (ih e) hk
  | iv r k id n ix el u h hn he ih => intro e; exact .iv _ k id n ix el u (ih e) hn he

/-- The same value under other numbers. -/
theorem VR.ren {g g' : G} {w w' : World} {r : Bool} {v : V} {u : Value} {f : Nat → Nat} (h : VR g w r v u) (s : Step g w g' w') :
    (∀ k ∈ v.refs, g.D k → g'.D (f k) ∧ g'.B (f k) = g.B k ∧ g'.C (f k) = g.C k) → VR g' w' r (v.ren f) u := by
  induction h with
  | un u => intro _; exact .un u
  | bool r b => intro _; exact .bool _ b
  | int r k n => intro _; exact .int _ k n
  | str r s => intro _; exact .str _ s
  | nilp r => intro _; exact .nilp _
  | ptr k off hD =>
    intro hf
    obtain ⟨h1, h2, _⟩ := hf k (by simp [V.refs]) hD
    rw [← h2]
    exact .ptr (f k) off h1
  | ip r cs us a hl h1 hc hr ih =>
    intro _
    exact (VR.ip false cs us a hl h1 hc hr).stay s rfl |> fun h => by cases h with | ip _ _ us a hl h1 hc hr => exact .ip _ cs us a hl h1 hc hr
  | nils r => intro _; exact .nils _
  | sl k off len cap c hD hc hn hl =>
    intro hf
    obtain ⟨h1, h2, h3⟩ := hf k (by simp [V.refs]) hD
    rw [← h2]
    exact .sl (f k) off len cap c h1 hc (fun e e0 => by rw [h3]; exact hn e e0) hl
  | is r xs clip us esz a c he hl hcap hclip h1 hc hr _ =>
    intro _
    have h := (VR.is false xs clip us esz a c he hl hcap hclip h1 hc hr).stay s rfl
    generalize hn : xs.length = n at h
    cases h with
    | is _ _ _ us esz _ _ he hl hcap hclip h1 hc hr => exact hn ▸ .is _ xs clip us esz a c he hl hcap hclip h1 hc hr
  | nilm r => intro _; exact .nilm _
  | mp k hD =>
    intro hf
    obtain ⟨h1, h2, _⟩ := hf k (by simp [V.refs]) hD
    rw [← h2]
    exact .mp (f k) h1
  | im r es q arr ck hO hw hl hk hv _ _ =>
    intro _
    have h := (VR.im false es q arr ck hO hw hl hk hv).stay s rfl
    cases h with
    | im _ _ _ arr ck hO hw hl hk hv => exact .im _ es q arr ck hO hw hl hk hv
  | fn r f' a b A A' hl hl' ha hb iha ihb =>
    intro hf
    refine .fn _ f' _ _ A A' (by rw [len_renL]; exact hl) (by rw [len_renL]; exact hl') ?_ ?_
    · intro j x u hx hu
      obtain ⟨y, hy, rfl⟩ := getL_ren hx
      exact iha j y u hy hu fun k hk => hf k (by simp [V.refs, refsL_mem hy k hk])
    · intro j x u hx hu
      obtain ⟨y, hy, rfl⟩ := getL_ren hx
      exact ihb j y u hy hu fun k hk => hf k (by simp [V.refs, refsL_mem hy k hk])
  | nilf r => intro _; exact .nilf _
  | ifc r t v u h ih => intro hf; exact .ifc _ t _ u (ih fun k hk => hf k (by simpa [V.refs] using hk))
  | nili r => intro _; exact .nili _
  | agg r cs U hl h1 ha ih =>
    intro hf
    refine .agg _ _ U (by rw [len_renL]; exact hl) h1 ?_
    intro j x u hx hu
    obtain ⟨y, hy, rfl⟩ := getL_ren hx
    exact ih j y u hy hu fun k hk => hf k (by simp [V.refs, refsL_mem hy k hk])
  | tup r cs U hl ha ih =>
    intro hf
    refine .tup _ _ U (by rw [len_renL]; exact hl) ?_
    intro j x u hx hu
    obtain ⟨y, hy, rfl⟩ := getL_ren hx
    exact ih j y u hy hu fun k hk => hf k (by simp [V.refs, refsL_mem hy k hk])
  | tm r k t => intro _; exact .tm _ k t
  | ct r ch => intro _; exact .ct _ ch
  | cb r ch u h ih => intro _; exact .cb _ ch u (by have := ih (by simp [V.refs]); simpa [V.ren] using this)
  | it r xs rest k u h hk ih => intro _; exact .it _ xs rest k u (by have := ih (by simp [V.refs]); simpa [V.ren] using this) hk
  | iv r k id n ix el u h hn he ih => intro _; exact .iv _ k id n ix el u (by have := ih (by simp [V.refs]); simpa only [V.ren] using this) hn he

/-- The same value, later. -/
theorem VR.move {g g' : G} {w w' : World} {r : Bool} {v : V} {u : Value} (h : VR g w r v u) (s : Step g w g' w')
    (hf : ∀ k, g.D k → g'.D k ∧ g'.B k = g.B k ∧ g'.C k = g.C k) : VR g' w' r v u := by
  induction h with
  | un u => exact .un u
  | bool r b => exact .bool _ b
  | int r k n => exact .int _ k n
  | str r s => exact .str _ s
  | nilp r => exact .nilp _
  | ptr k off hD =>
    obtain ⟨h1, h2, _⟩ := hf k hD
    rw [← h2]
    exact .ptr k off h1
  | ip r cs us a hl h1 hc hr ih => exact .ip _ cs us a hl h1 (fun j u hu => s.cell (hc j u hu)) ih
  | nils r => exact .nils _
  | sl k off len cap c hD hc hn hl =>
    obtain ⟨h1, h2, h3⟩ := hf k hD
    rw [← h2]
    exact .sl k off len cap c h1 hc (fun e e0 => by rw [h3]; exact hn e e0) hl
  | is r xs clip us esz a c he hl hcap hclip h1 hc hr ih =>
    exact .is _ xs clip us esz a c he hl hcap hclip h1 (fun j u hu => by
      obtain ⟨ad, e, q1, q2⟩ := hc j u hu
      have := s.cell ⟨q1, q2⟩
      exact ⟨ad, e, this.1, this.2⟩) ih
  | nilm r => exact .nilm _
  | mp k hD =>
    obtain ⟨h1, h2, _⟩ := hf k hD
    rw [← h2]
    exact .mp k h1
  | im r es q arr ck hO hw hl hk hv ihk ihv =>
    obtain ⟨h1, h2⟩ := s.stay q hO (heap_lt hw)
    exact .im _ es q arr ck h1 (h2.trans hw) hl ihk ihv
  | fn r f a b A A' hl hl' ha hb iha ihb => exact .fn _ f a b A A' hl hl' iha ihb
  | nilf r => exact .nilf _
  | ifc r t v u h ih => exact .ifc _ t v u ih
  | nili r => exact .nili _
  | agg r cs U hl h1 ha ih => exact .agg _ cs U hl h1 ih
  | tup r cs U hl ha ih => exact .tup _ cs U hl ih
  | tm r k t => exact .tm _ k t
  | ct r ch => exact .ct _ ch
  | cb r ch u h ih => exact .cb _ ch u ih
  | it r xs rest k u h hk ih => exact .it _ xs rest k u ih hk
  | iv r k id n ix el u h hn he ih => exact .iv _ k id n ix el u ih hn he
end Go.Pv
namespace Go.Pv
variable [Sy]

def OR (g : G) (w : World) (k : Nat) : VO → Prop
  | .dead => True
  | .cells cs esz => ∃ (arr : Array Value) (t : TypeId), w.heap[g.B k]? = some (.cells arr t (0, 0)) ∧ cs.length ≤ arr.size ∧ g.C k * esz ≤ arr.size ∧
      ∀ (j : Nat) (c : V) (u : Value), cs[j]? = some c → arr[j]? = some u → u.oneCell' = true ∧ VR g w true c u
  | .map es => ∃ (arr : Array MapEntry) (ck : Nat), w.heap[g.B k]? = some (.map arr ck) ∧ arr.size = es.length ∧
      ∀ (j : Nat) (e : V × V) (m : MapEntry), es[j]? = some e → arr[j]? = some m → VR g w true e.1 m.key ∧ VR g w true e.2 m.val
  | .iter s pos => w.heap[g.B k]? = some (.stringIter ⟨s.toArray⟩ pos)

theorem OR.lt {g : G} {w : World} {k : Nat} {o : VO} (h : OR g w k o) (ha : o.alive) : g.B k < w.heap.size := by
  cases o with
  | dead => exact ha.elim
  | cells cs esz => obtain ⟨arr, t, h, _⟩ := h; exact heap_lt h
  | map es => obtain ⟨arr, t, h, _⟩ := h; exact heap_lt h
  | iter s pos => exact heap_lt h

theorem OR.move {g g' : G} {w w' : World} {k : Nat} {o : VO} (h : OR g w k o) (s : Step g w g' w')
    (hf : ∀ k, g.D k → g'.D k ∧ g'.B k = g.B k ∧ g'.C k = g.C k) (hD : g.D k) (hh : w'.heap[g.B k]? = w.heap[g.B k]?) : OR g' w' k o := by
  obtain ⟨_, hB, hC⟩ := hf k hD
  cases o with
  | dead => exact h
  | cells cs esz =>
    obtain ⟨arr, t, h, h1, h2, h3⟩ := h
    exact ⟨arr, t, by rw [hB, hh]; exact h, h1, by rw [hC]; exact h2, fun j c u hc hu => ⟨(h3 j c u hc hu).1, (h3 j c u hc hu).2.move s hf⟩⟩
  | map es =>
    obtain ⟨arr, ck, h, h1, h2⟩ := h
    exact ⟨arr, ck, by rw [hB, hh]; exact h, h1, fun j e m he hm => ⟨((h2 j e m he hm).1).move s hf, ((h2 j e m he hm).2).move s hf⟩⟩
  | iter t pos => show w'.heap[g'.B k]? = _; rw [hB, hh]; exact h

structure Rel (g : G) (O0 : Nat → Prop) (w0 w : World) : Prop where
  dom : ∀ k, (g.h k).alive → g.D k
  inj : ∀ k l, (g.h k).alive → (g.h l).alive → g.B k = g.B l → k = l
  sep : ∀ k, (g.h k).alive → ¬ g.X (g.B k)
  obj : ∀ k, OR g w k (g.h k)
  own : ∀ k, (g.h k).alive → O0 (g.B k) ∨ w0.heap.size ≤ g.B k
  xlt : ∀ b, g.X b → b < w0.heap.size
  size : w0.heap.size ≤ w.heap.size
  frame : ∀ b, b < w0.heap.size → ¬ O0 b → w.heap[b]? = w0.heap[b]?
  os : w.os = w0.os
  tape : w.tape = w0.tape
  output : w.output = w0.output

structure Up (g : G) (w : World) (g' : G) (w' : World) (K : Nat → Prop) : Prop where
  hX : g'.X = g.X
  hs : w.heap.size ≤ w'.heap.size
  os : w'.os = w.os
  tape : w'.tape = w.tape
  output : w'.output = w.output
  hD : ∀ k, g.D k → g'.D k ∧ g'.B k = g.B k ∧ g'.C k = g.C k
  same : ∀ k, ¬ K k → g'.h k = g.h k
  heap : ∀ b, b < w.heap.size → (∀ k, K k → (g.h k).alive → g.B k ≠ b) → w'.heap[b]? = w.heap[b]?
  new : ∀ k, K k → (g'.h k).alive → g'.D k ∧ ((∃ l, K l ∧ (g.h l).alive ∧ g.B l = g'.B k) ∨ w.heap.size ≤ g'.B k)
  inj : ∀ k l, K k → K l → (g'.h k).alive → (g'.h l).alive → g'.B k = g'.B l → k = l

theorem Rel.step {g g' : G} {O0 : Nat → Prop} {w0 w w' : World} {K : Nat → Prop} (R : Rel g O0 w0 w) (U : Up g w g' w' K) : Step g w g' w' := ⟨by
  intro b hb hlt
  refine ⟨?_, U.heap b hlt fun k hk ha e => hb (.inr ⟨k, ha, e⟩)⟩
  rintro (hx | ⟨k, ha, e⟩)
  · exact hb (.inl (by rw [← U.hX]; exact hx))
  · by_cases hk : K k
    · rcases (U.new k hk ha).2 with ⟨l, _, hl, e'⟩ | h
      · exact hb (.inr ⟨l, hl, e'.trans e⟩)
      · omega
    · rw [U.same k hk] at ha
      exact hb (.inr ⟨k, ha, ((U.hD k (R.dom k ha)).2.1).symm.trans e⟩)⟩

theorem Rel.up {g g' : G} {O0 : Nat → Prop} {w0 w w' : World} {K : Nat → Prop} (R : Rel g O0 w0 w) (U : Up g w g' w' K)
    (hobj : ∀ k, K k → OR g' w' k (g'.h k)) : Rel g' O0 w0 w' := by
  have hlt : ∀ k, (g.h k).alive → g.B k < w.heap.size := fun k ha => (R.obj k).lt ha
  have old : ∀ k, ¬ K k → (g'.h k).alive → (g.h k).alive ∧ g'.B k = g.B k := fun k hk ha => by
    rw [U.same k hk] at ha
    exact ⟨ha, (U.hD k (R.dom k ha)).2.1⟩
  have S := R.step U
  refine ⟨?_, ?_, ?_, ?_, ?_, ?_, Nat.le_trans R.size U.hs, ?_, U.os.trans R.os, U.tape.trans R.tape, U.output.trans R.output⟩
  · intro k ha
    by_cases hk : K k
    · exact (U.new k hk ha).1
    · exact (U.hD k (R.dom k (old k hk ha).1)).1
  · intro k l ha hl e
    by_cases hk : K k <;> by_cases hk' : K l
    · exact U.inj k l hk hk' ha hl e
    · obtain ⟨h1, h2⟩ := old l hk' hl
      rcases (U.new k hk ha).2 with ⟨l', hl', ha', e'⟩ | h
      · have := R.inj l' l ha' h1 (by rw [e', e, h2])
        exact absurd (this ▸ hl') hk'
      · have := hlt l h1
        omega
    · obtain ⟨h1, h2⟩ := old k hk ha
      rcases (U.new l hk' hl).2 with ⟨l', hl', ha', e'⟩ | h
      · have := R.inj l' k ha' h1 (by rw [e', ← e, h2])
        exact absurd (this ▸ hl') hk
      · have := hlt k h1
        omega
    · obtain ⟨h1, h2⟩ := old k hk ha
      obtain ⟨h3, h4⟩ := old l hk' hl
      exact R.inj k l h1 h3 (by rw [← h2, ← h4]; exact e)
  · intro k ha hx
    rw [U.hX] at hx
    by_cases hk : K k
    · rcases (U.new k hk ha).2 with ⟨l', _, ha', e'⟩ | h
      · exact R.sep l' ha' (by rw [e']; exact hx)
      · have := R.xlt _ hx
        have := R.size
        omega
    · obtain ⟨h1, h2⟩ := old k hk ha
      exact R.sep k h1 (by rw [← h2]; exact hx)
  · intro k
    by_cases hk : K k
    · exact hobj k hk
    · rw [U.same k hk]
      by_cases ha : (g.h k).alive
      · exact (R.obj k).move S U.hD (R.dom k ha) (U.heap _ (hlt k ha) fun l hl hla e => hk (R.inj l k hla ha e ▸ hl))
      · cases hh : g.h k with
        | dead => trivial
        | _ => exact absurd (by rw [hh]; trivial) ha
  · intro k ha
    by_cases hk : K k
    · rcases (U.new k hk ha).2 with ⟨l', _, ha', e'⟩ | h
      · rw [← e']; exact R.own l' ha'
      · exact .inr (Nat.le_trans R.size h)
    · obtain ⟨h1, h2⟩ := old k hk ha
      rw [h2]; exact R.own k h1
  · intro b hx
    rw [U.hX] at hx
    exact R.xlt b hx
  · intro b hb hO
    have h1 : w'.heap[b]? = w.heap[b]? := U.heap b (Nat.lt_of_lt_of_le hb R.size) fun k _ ha e => by
      rcases R.own k ha with h | h
      · exact hO (e ▸ h)
      · omega
    exact h1.trans (R.frame b hb hO)
end Go.Pv
namespace Go.Pv
variable [Sy]

def lookU : List (Nat × VO) → Nat → VO → VO
  | [], _, d => d
  | (k, o) :: r, n, d => lookU r n (if k = n then o else d)

structure Eff (g : G) (upd : List (Nat × VO)) (g' : G) : Prop where
  X : g'.X = g.X
  D : ∀ k, g'.D k ↔ g.D k ∨ k ∈ upd.map (·.1)
  B : ∀ k, g.D k → g'.B k = g.B k ∧ g'.C k = g.C k
  h : ∀ k, g'.h k = lookU upd k (g.h k)
theorem Eff.nil (g : G) : Eff g [] g := ⟨rfl, fun k => by simp, fun _ _ => ⟨rfl, rfl⟩, fun _ => rfl⟩
theorem Step.refl (g : G) (w : World) : Step g w g w := ⟨fun _ h _ => ⟨h, rfl⟩⟩
theorem Step.trans {g g' g'' : G} {w w' w'' : World} (a : Step g w g' w') (b : Step g' w' g'' w'') (hs : w.heap.size ≤ w'.heap.size) : Step g w g'' w'' :=
  ⟨fun x h hl => let ⟨h1, h2⟩ := a.stay x h hl; let ⟨h3, h4⟩ := b.stay x h1 (Nat.lt_of_lt_of_le hl hs); ⟨h3, h4.trans h2⟩⟩

def isVal (n : Next) (u : Value) : Prop := n = .value u ∨ (n = .skip ∧ u = undef)
def OpOk (P : Program) (ρ : Operand → Value) (o : Oper) (g : G) (O0 : Nat → Prop) (w0 w : World) (rc : Rec) : Prop :=
  ∃ n w' g' u, (execOp ρ o).run P w = .ok n w' ∧ isVal n u ∧ Eff g rc.upd g' ∧ Rel g' O0 w0 w' ∧ Step g w g' w' ∧ VR g' w' true rc.val u

section
variable {P : Program} {ρ : Operand → Value} {o : Oper} {g : G} {O0 : Nat → Prop} {w0 w : World} {e : Env} {N : Nat}

theorem OpOk.pure (R : Rel g O0 w0 w) {v : V} {u : Value} (rd : List Nat) (h : (execOp ρ o).run P w = .ok (.value u) w) (hv : VR g w true v u) : OpOk P ρ o g O0 w0 w ⟨v, [], rd⟩ :=
  ⟨_, w, g, u, h, .inl rfl, Eff.nil g, R, Step.refl g w, hv⟩

/-- What an operand is. -/
structure Evs (g : G) (w : World) (e : Env) (ρ : Operand → Value) : Prop where
  tmp : ∀ t, VR g w true (e.get t) (ρ (.tmp t))
  con : ∀ v, ρ (.const v) = v
  fn : ∀ f, ρ (.func f) = .func (.func f) #[] #[]
  glo : ∀ k, VR g w true (globT k) (ρ (.global k))

theorem bytes_eta (s : ByteArray) : (⟨s.data.toList.toArray⟩ : ByteArray) = s := by cases s; simp

theorem ofVal1_ok {r : Bool} {v : Value} {x : V} (h : ofVal1 v = some x) : VR g w r x v := by
  unfold ofVal1 at h
  split at h <;> simp at h <;> subst h
  · exact .bool _ _
  · exact .int _ _ _
  · rename_i s
    have := VR.str (g := g) (w := w) r s.data.toList
    rwa [bytes_eta] at this
  · exact .nilp _
  · exact .nils _
  · exact .nilm _
  · exact .nilf _
  · exact .nili _
theorem ofVals_ok {r : Bool} : ∀ {l : List Value} {xs : List V}, ofVals l = some xs → xs.length = l.length ∧ ∀ (j : Nat) (x : V) (u : Value), xs[j]? = some x → l[j]? = some u → VR g w r x u
  | [], xs, h => by
    simp [ofVals] at h
    subst h
    exact ⟨rfl, fun j x u h => by simp at h⟩
  | v :: l, xs, h => by
    unfold ofVals at h
    split at h
    · rename_i x ys hx hy
      simp at h
      subst h
      obtain ⟨h1, h2⟩ := ofVals_ok (r := r) hy
      refine ⟨by simp [h1], ?_⟩
      intro j y u hy hu
      cases j with
      | zero => simp at hy hu; subst hy; subst hu; exact ofVal1_ok hx
      | succ j => simp at hy hu; exact h2 j y u hy hu
    · cases h
theorem ofVal1_one {v : Value} {x : V} (h : ofVal1 v = some x) : v.oneCell' = true := by
  unfold ofVal1 at h
  split at h <;> simp at h <;> rfl
theorem ofVals_one : ∀ {l : List Value} {xs : List V}, ofVals l = some xs → ∀ u ∈ l, u.oneCell' = true
  | [], xs, h, u, hu => by cases hu
  | v :: l, xs, h, u, hu => by
    unfold ofVals at h
    split at h
    · rename_i x ys hx hy
      rcases List.mem_cons.1 hu with rfl | hu
      · exact ofVal1_one hx
      · exact ofVals_one hy u hu
    · cases h
theorem ofVal_ok {r : Bool} {v : Value} {x : V} (h : ofVal v = some x) : VR g w r x v := by
  unfold ofVal at h
  split at h
  · rename_i cs
    cases hc : ofVals cs.toList with
    | none => rw [hc] at h; cases h
    | some xs =>
      rw [hc] at h
      simp at h
      subst h
      obtain ⟨h1, h2⟩ := ofVals_ok (g := g) (w := w) (r := r) hc
      exact .agg _ xs cs (by simpa using h1.symm) (fun u hu => ofVals_one hc u (by simpa using hu)) fun j x u hx hu => h2 j x u hx (by simpa using hu)
  · exact ofVal1_ok h

theorem od_ok (E : Evs g w e ρ) {x : Operand} {od : Od} (h : odOf x = some od) : VR g w true (od.ev e) (ρ x) := by
  cases x with
  | tmp t => simp [odOf] at h; subst h; exact E.tmp t
  | const v =>
    simp only [odOf, Option.map_eq_some_iff] at h
    obtain ⟨y, hy, rfl⟩ := h
    rw [E.con]
    exact ofVal_ok hy
  | global k => simp [odOf] at h; subst h; exact E.glo k
  | func f =>
    simp [odOf] at h
    subst h
    rw [E.fn]
    exact .fn _ f [] [] #[] #[] rfl rfl (fun j x u h => by simp at h) (fun j x u h => by simp at h)


/-! ### Inversions. -/
theorem VR.inv_bool {r : Bool} {b : Bool} {u : Value} (h : VR g w r (.bool b) u) : u = .bool b := by cases h; rfl
theorem VR.inv_int {r : Bool} {k : IntKind} {n : Int} {u : Value} (h : VR g w r (.int k n) u) : u = .int k n := by cases h; rfl
theorem VR.inv_str {r : Bool} {s : List UInt8} {u : Value} (h : VR g w r (.str s) u) : u = .string ⟨s.toArray⟩ := by cases h; rfl
theorem VR.inv_tm {r : Bool} {k : IntKind} {t : Tm} {u : Value} (h : VR g w r (.tm k t) u) : u = .int k t.ev := by cases h; rfl
theorem VR.inv_ct {r : Bool} {ch : List Ch} {u : Value} (h : VR g w r (.ct ch) u) : u = .string ⟨(chev ch).toArray⟩ := by cases h; rfl
theorem VR.inv_cb {r : Bool} {ch : List Ch} {u : Value} (h : VR g w r (.cb ch) u) : VR g w r (.is (bytesL (chev ch)) false) u := by cases h with | cb _ _ _ h => exact h
theorem VR.inv_it {r : Bool} {xs : List (List V)} {k : Nat} {u : Value} (h : VR g w r (.it xs k) u) : ∃ rest, VR g w r (.is (xs ++ rest) false) u ∧ Sy.val k = ((xs ++ rest).length : Int) := by cases h with | it _ _ rest _ _ h hk => exact ⟨rest, h, hk⟩
theorem VR.inv_iv {r : Bool} {k : IntKind} {id n ix el : Nat} {u : Value} (h : VR g w r (.iv k id n ix el) u) : VR g w r (.is ((Sy.lists id).map fun z => [V.int k z]) false) u ∧ Sy.val n = ((Sy.lists id).length : Int) ∧ ∀ j : Nat, Sy.val ix = j → j < (Sy.lists id).length → (Sy.lists id)[j]? = some (Sy.val el) := by cases h with | iv _ _ _ _ _ _ _ h hn he => exact ⟨h, hn, he⟩
theorem VR.inv_nilp {r : Bool} {u : Value} (h : VR g w r .nilp u) : u = .pointer none := by cases h; rfl
theorem VR.inv_ptr {r : Bool} {k off : Nat} {u : Value} (h : VR g w r (.ptr k off) u) : g.D k ∧ u = .pointer (some ⟨g.B k, off, none⟩) := by
  cases h with | ptr _ _ hD => exact ⟨hD, rfl⟩
theorem VR.inv_ip {r : Bool} {cs : List V} {u : Value} (h : VR g w r (.ip cs) u) : ∃ (a : Addr) (us : List Value), u = .pointer (some a) ∧ us.length = cs.length ∧ (∀ u ∈ us, u.oneCell' = true) ∧
    (∀ (j : Nat) (u : Value), us[j]? = some u → ¬ g.O a.block ∧ w.cell? (a.add j) = some u) ∧ (∀ (j : Nat) (c : V) (u : Value), cs[j]? = some c → us[j]? = some u → VR g w false c u) := by
  cases h with | ip _ _ us a hl h1 hc hr => exact ⟨a, us, rfl, hl, h1, hc, hr⟩
theorem VR.inv_nils {r : Bool} {u : Value} (h : VR g w r .nils u) : u = .slice none 0 0 := by cases h; rfl
theorem VR.inv_sl {r : Bool} {k off len : Nat} {cap : Option Nat} {u : Value} (h : VR g w r (.sl k off len cap) u) : g.D k ∧ ∃ c, u = .slice (some ⟨g.B k, off, none⟩) len c ∧ (∀ x, cap = some x → c = x) ∧ (cap = none → off = 0 → c = g.C k) ∧ len ≤ c := by
  cases h with | sl _ _ _ _ c hD hc hn hl => exact ⟨hD, c, rfl, hc, hn, hl⟩
theorem VR.inv_is {r : Bool} {xs : List (List V)} {clip : Bool} {u : Value} (h : VR g w r (.is xs clip) u) : ∃ (us : List Value) (esz : Nat) (a : Option Addr) (c : Nat), u = .slice a xs.length c ∧
    (∀ x ∈ xs, x.length = esz) ∧ us.length = xs.flatten.length ∧ xs.length ≤ c ∧ (clip = true → c = xs.length) ∧ (∀ u ∈ us, u.oneCell' = true) ∧
    (∀ (j : Nat) (u : Value), us[j]? = some u → ∃ ad, a = some ad ∧ ¬ g.O ad.block ∧ w.cell? (ad.add j) = some u) ∧ (∀ (j : Nat) (c : V) (u : Value), xs.flatten[j]? = some c → us[j]? = some u → VR g w false c u) := by
  generalize hn : xs.length = n at *
  cases h with | is _ _ _ us esz a c he hl hcap hclip h1 hc hr => subst hn; exact ⟨us, esz, a, c, rfl, he, hl, hcap, hclip, h1, hc, hr⟩
theorem VR.inv_nilm {r : Bool} {u : Value} (h : VR g w r .nilm u) : u = .map none := by cases h; rfl
theorem VR.inv_mp {r : Bool} {k : Nat} {u : Value} (h : VR g w r (.mp k) u) : g.D k ∧ u = .map (some (g.B k)) := by cases h with | mp _ hD => exact ⟨hD, rfl⟩
theorem VR.inv_im {r : Bool} {es : List (V × V)} {u : Value} (h : VR g w r (.im es) u) : ∃ (q : Nat) (arr : Array MapEntry) (ck : Nat), u = .map (some q) ∧ ¬ g.O q ∧ w.heap[q]? = some (.map arr ck) ∧ arr.size = es.length ∧
    (∀ (j : Nat) (e : V × V) (m : MapEntry), es[j]? = some e → arr[j]? = some m → VR g w false e.1 m.key) ∧ (∀ (j : Nat) (e : V × V) (m : MapEntry), es[j]? = some e → arr[j]? = some m → VR g w false e.2 m.val) := by
  cases h with | im _ _ q arr ck hO hw hl hk hv => exact ⟨q, arr, ck, rfl, hO, hw, hl, hk, hv⟩
theorem VR.inv_fn {r : Bool} {f : FuncId} {a b : List V} {u : Value} (h : VR g w r (.fn f a b) u) : ∃ A A' : Array Value, u = .func (.func f) A A' ∧ A.size = a.length ∧ A'.size = b.length ∧
    (∀ (j : Nat) (x : V) (u : Value), a[j]? = some x → A[j]? = some u → VR g w r x u) ∧ (∀ (j : Nat) (x : V) (u : Value), b[j]? = some x → A'[j]? = some u → VR g w r x u) := by
  cases h with | fn _ _ _ _ A A' hl hl' ha hb => exact ⟨A, A', rfl, hl, hl', ha, hb⟩
theorem VR.inv_ifc {r : Bool} {t : TypeId} {v : V} {u : Value} (h : VR g w r (.ifc t v) u) : ∃ x, u = .iface t x ∧ VR g w r v x := by cases h with | ifc _ _ _ x h => exact ⟨x, rfl, h⟩
theorem VR.inv_nili {r : Bool} {u : Value} (h : VR g w r .nili u) : u = .nilIface := by cases h; rfl
theorem VR.inv_agg {r : Bool} {cs : List V} {u : Value} (h : VR g w r (.agg cs) u) : ∃ U : Array Value, u = .agg U ∧ U.size = cs.length ∧ (∀ u ∈ U, u.oneCell' = true) ∧ (∀ (j : Nat) (x : V) (u : Value), cs[j]? = some x → U[j]? = some u → VR g w r x u) := by
  cases h with | agg _ _ U hl h1 ha => exact ⟨U, rfl, hl, h1, ha⟩
theorem VR.inv_tup {r : Bool} {cs : List V} {u : Value} (h : VR g w r (.tup cs) u) : ∃ U : Array Value, u = .tuple U ∧ U.size = cs.length ∧ (∀ (j : Nat) (x : V) (u : Value), cs[j]? = some x → U[j]? = some u → VR g w r x u) := by
  cases h with | tup _ _ U hl ha => exact ⟨U, rfl, hl, ha⟩

theorem op_mov (R : Rel g O0 w0 w) (E : Evs g w e ρ) {x : Operand} {od : Od} (ho : o.op = .move x ∨ o.op = .assign x) (hx : odOf x = some od) :
    OpOk P ρ o g O0 w0 w ⟨od.ev e, [], []⟩ := by
  refine OpOk.pure R [] (u := ρ x) ?_ (od_ok E hx)
  rcases ho with h | h <;> simp [execOp, h]

theorem op_pick (R : Rel g O0 w0 w) (E : Evs g w e ρ) {c a b : Operand} {c' a' b' : Od} (ho : o.op = .pick c a b) (hc : odOf c = some c') (ha : odOf a = some a') (hb : odOf b = some b')
    {rc : Rec} {call : Callf} (hv : vop call g.h N e (.pick c' a' b') = some (.ok rc)) : OpOk P ρ o g O0 w0 w rc := by
  have h1 := od_ok E hc
  simp only [vop, v_mov, v_pick, v_new, v_box, v_build, v_buildS, v_load, v_store, v_nilc, v_bin, v_una, v_conv, v_mkI, v_mkF, v_mkM, v_mkS, v_slc, v_fad, v_fld, v_iad, v_idx, v_look, v_mset, v_rng, v_nxt, v_tas, v_ext, v_call, v_calld, v_len, v_app, v_copy, v_clearM, v_clearS, v_del, v_mx, v_pan] at hv
  split at hv
  · rename_i t ht
    simp [ok1] at hv
    subst hv
    rw [ht] at h1
    have h1 := h1.inv_bool
    refine OpOk.pure R [] (u := if t then ρ a else ρ b) ?_ ?_
    · simp [execOp, ho, h1, asBool]
    · cases t
      · exact od_ok E hb
      · exact od_ok E ha
  · cases hv

theorem op_nilc (R : Rel g O0 w0 w) (E : Evs g w e ρ) {x : Operand} {x' : Od} (ho : o.op = .nilCheck x) (hx : odOf x = some x') {rc : Rec} {call : Callf}
    (hv : vop call g.h N e (.nilc x') = some (.ok rc)) : OpOk P ρ o g O0 w0 w rc := by
  have h1 := od_ok E hx
  simp only [vop, v_mov, v_pick, v_new, v_box, v_build, v_buildS, v_load, v_store, v_nilc, v_bin, v_una, v_conv, v_mkI, v_mkF, v_mkM, v_mkS, v_slc, v_fad, v_fld, v_iad, v_idx, v_look, v_mset, v_rng, v_nxt, v_tas, v_ext, v_call, v_calld, v_len, v_app, v_copy, v_clearM, v_clearS, v_del, v_mx, v_pan] at hv
  split at hv <;> simp [ok1] at hv <;> rename_i hq <;> rw [hq] at h1 <;> subst hv
  · refine OpOk.pure R [] (u := ρ x) ?_ h1
    obtain ⟨_, h⟩ := h1.inv_ptr
    simp [execOp, ho, h]
  · refine OpOk.pure R [] (u := ρ x) ?_ h1
    obtain ⟨_, _, h, _⟩ := h1.inv_ip
    simp [execOp, ho, h]
  · refine OpOk.pure R [] (u := ρ x) ?_ h1
    obtain ⟨_, _, h, _⟩ := h1.inv_fn
    simp [execOp, ho, h]

theorem op_una (R : Rel g O0 w0 w) (E : Evs g w e ρ) {x : Operand} {x' : Od} {op : UnOp} {ty : TypeId} (ho : o.op = .unOp op ty x) (hx : odOf x = some x') {rc : Rec} {call : Callf}
    (hv : vop call g.h N e (.una op x') = some (.ok rc)) : OpOk P ρ o g O0 w0 w rc := by
  have h1 := od_ok E hx
  simp only [vop, v_mov, v_pick, v_new, v_box, v_build, v_buildS, v_load, v_store, v_nilc, v_bin, v_una, v_conv, v_mkI, v_mkF, v_mkM, v_mkS, v_slc, v_fad, v_fld, v_iad, v_idx, v_look, v_mset, v_rng, v_nxt, v_tas, v_ext, v_call, v_calld, v_len, v_app, v_copy, v_clearM, v_clearS, v_del, v_mx, v_pan] at hv
  split at hv
  · rename_i v hq
    simp [ok1] at hv
    subst hv
    generalize hy : x'.ev e = y at hq h1
    unfold vun at hq
    split at hq <;> simp at hq <;> subst hq
    · have h1 := h1.inv_int
      refine OpOk.pure R [] ?_ (.int _ _ _)
      simp [execOp, ho, h1, Op.unary, Op.intArith]
    · have h1 := h1.inv_bool
      refine OpOk.pure R [] ?_ (.bool _ _)
      simp [execOp, ho, h1, Op.unary]
  · cases hv

theorem op_mkI (R : Rel g O0 w0 w) (E : Evs g w e ρ) {x : Operand} {x' : Od} {t : TypeId} {d : TypeDesc} (ho : o.op = .makeInterface t x) (hx : odOf x = some x') (hd : P.underlying t = some d)
    (hn : ∀ ms, d ≠ .interface ms) : OpOk P ρ o g O0 w0 w ⟨.ifc t (x'.ev e), [], []⟩ := by
  refine OpOk.pure R [] (u := .iface t (ρ x)) ?_ (.ifc _ _ _ _ (od_ok E hx))
  simp only [execOp, ho, Sem.run_bind, Instr.makeInterface, run_underlying hd, Result.andThen_ok]
  cases d <;> first | rfl | exact absurd rfl (hn _)

theorem op_ext (R : Rel g O0 w0 w) (E : Evs g w e ρ) {x : Operand} {x' : Od} {i : Nat} (ho : o.op = .extract x i) (hx : odOf x = some x') {rc : Rec} {call : Callf}
    (hv : vop call g.h N e (.ext x' i) = some (.ok rc)) : OpOk P ρ o g O0 w0 w rc := by
  have h1 := od_ok E hx
  simp only [vop, v_mov, v_pick, v_new, v_box, v_build, v_buildS, v_load, v_store, v_nilc, v_bin, v_una, v_conv, v_mkI, v_mkF, v_mkM, v_mkS, v_slc, v_fad, v_fld, v_iad, v_idx, v_look, v_mset, v_rng, v_nxt, v_tas, v_ext, v_call, v_calld, v_len, v_app, v_copy, v_clearM, v_clearS, v_del, v_mx, v_pan] at hv
  split at hv
  · rename_i vs hq
    rw [hq] at h1
    obtain ⟨U, hU, hl, ha⟩ := h1.inv_tup
    split at hv
    · rename_i v hv'
      simp [ok1] at hv
      subst hv
      have hi : i < U.size := by rw [hl]; exact (List.getElem?_eq_some_iff.1 hv').1
      have hu : U[i]? = some U[i] := Array.getElem?_eq_getElem hi
      refine OpOk.pure R [] (u := U[i]) ?_ (ha i v _ hv' hu)
      simp [execOp, ho, hU, Instr.extract, hu]
    · cases hv
  · cases hv
end
end Go.Pv
namespace Go.Pv
variable [Sy]
section
variable {P : Program} {ρ : Operand → Value} {o : Oper} {g : G} {O0 : Nat → Prop} {w0 w : World} {e : Env} {N : Nat} {rc : Rec} {call : Callf}

theorem szOf_run {t : TypeId} {n : Nat} (h : szOf P t = some n) (w : World) : (sizeOf t).run P w = .ok n w := by
  simp only [szOf, Option.map_eq_some_iff] at h
  obtain ⟨i, hi, rfl⟩ := h
  simp [sizeOf, typeInfo, hi]
theorem aggOf_some {t : TypeId} {n : Nat} (h : aggOf P t = some (some n)) : (∀ w, (isAgg t).run P w = .ok true w) ∧ szOf P t = some n := by
  unfold aggOf at h
  split at h
  · rename_i fs hd
    refine ⟨fun w => by simp [isAgg, run_underlying hd], ?_⟩
    cases hs : szOf P t with
    | none => rw [hs] at h; cases h
    | some m => rw [hs] at h; simpa using h
  · rename_i k el hd
    refine ⟨fun w => by simp [isAgg, run_underlying hd], ?_⟩
    cases hs : szOf P t with
    | none => rw [hs] at h; cases h
    | some m => rw [hs] at h; simpa using h
  · cases h
  · cases h
theorem aggOf_none {t : TypeId} (h : aggOf P t = some none) : ∀ w, (isAgg t).run P w = .ok false w := by
  unfold aggOf at h
  split at h
  · cases hs : szOf P t with
    | none => rw [hs] at h; cases h
    | some m => rw [hs] at h; cases h
  · cases hs : szOf P t with
    | none => rw [hs] at h; cases h
    | some m => rw [hs] at h; cases h
  · rename_i d h1 h2 hd
    intro w
    simp only [isAgg, Sem.run_bind, run_underlying hd, Result.andThen_ok]
    cases d <;> first | rfl | (exfalso; first | exact h1 _ hd | exact h2 _ _ hd)
  · cases h

/-- Cells and what they are. -/
structure Cells (g : G) (w : World) (r : Bool) (cs : List V) (us : List Value) : Prop where
  len : us.length = cs.length
  one : ∀ u ∈ us, u.oneCell' = true
  rel : ∀ (j : Nat) (c : V) (u : Value), cs[j]? = some c → us[j]? = some u → VR g w r c u
theorem Cells.take {r : Bool} {cs : List V} {us : List Value} (h : Cells g w r cs us) (n : Nat) : Cells g w r (cs.take n) (us.take n) :=
  ⟨by simp [h.len], fun u hu => h.one u (List.mem_of_mem_take hu), fun j c u hc hu => by
    rw [List.getElem?_take] at hc hu
    split at hc
    · rename_i hj; rw [if_pos hj] at hu; exact h.rel j c u hc hu
    · cases hc⟩
theorem Cells.drop {r : Bool} {cs : List V} {us : List Value} (h : Cells g w r cs us) (n : Nat) : Cells g w r (cs.drop n) (us.drop n) :=
  ⟨by simp [h.len], fun u hu => h.one u (List.mem_of_mem_drop hu), fun j c u hc hu => by
    rw [List.getElem?_drop] at hc hu
    exact h.rel _ c u hc hu⟩
theorem Cells.append {r : Bool} {cs cs' : List V} {us us' : List Value} (h : Cells g w r cs us) (h' : Cells g w r cs' us') : Cells g w r (cs ++ cs') (us ++ us') :=
  ⟨by simp [h.len, h'.len], fun u hu => by
    rcases List.mem_append.1 hu with hu | hu
    · exact h.one u hu
    · exact h'.one u hu, fun j c u hc hu => by
    rw [List.getElem?_append] at hc hu
    rw [h.len] at hu
    split at hc
    · rename_i hj; rw [if_pos hj] at hu; exact h.rel j c u hc hu
    · rename_i hj; rw [if_neg hj] at hu; exact h'.rel _ c u hc hu⟩
theorem Cells.nil {r : Bool} : Cells g w r [] [] := ⟨rfl, fun u hu => (by cases hu), fun j c u hc hu => (by simp at hc)⟩
theorem Cells.move {r : Bool} {g' : G} {w' : World} {cs : List V} {us : List Value} (h : Cells g w r cs us) (s : Step g w g' w')
    (hf : ∀ k, g.D k → g'.D k ∧ g'.B k = g.B k ∧ g'.C k = g.C k) : Cells g' w' r cs us :=
  ⟨h.len, h.one, fun j c u hc hu => (h.rel j c u hc hu).move s hf⟩
theorem Cells.up {r : Bool} {cs : List V} {us : List Value} (h : Cells g w r cs us) : Cells g w true cs us := ⟨h.len, h.one, fun j c u hc hu => (h.rel j c u hc hu).up⟩

theorem shape_some {n : Nat} {cs : List V} {us : List Value} {v : V} (h : Cells g w true cs us) (hs : shapeOf (some n) cs = some v) : VR g w true v (.agg us.toArray) := by
  simp [shapeOf] at hs
  subst hs
  exact .agg _ _ _ (by simp [h.len]) (fun u hu => h.one u (by simpa using hu)) fun j x u hx hu => h.rel j x u hx (by simpa using hu)
theorem shape_none {cs : List V} {us : List Value} {v : V} (h : Cells g w true cs us) (hs : shapeOf none cs = some v) : ∃ u, us = [u] ∧ VR g w true v u := by
  unfold shapeOf at hs
  split at hs
  · rename_i hh; cases hh
  · split at hs
    · rename_i x
      simp at hs
      subst hs
      have hl := h.len
      match us, hl with
      | [u], _ => exact ⟨u, rfl, h.rel 0 x u rfl rfl⟩
    · cases hs

theorem cells_of {v : V} {u : Value} {vs : List V} (h : VR g w true v u) (hc : v.cells? = some vs) : Cells g w true vs u.cells.toList := by
  cases h with
  | un u => cases hc
  | tup r cs U hl ha => cases hc
  | agg r cs U hl h1 ha =>
    simp [V.cells?] at hc
    subst hc
    exact ⟨by simpa [Value.cells] using hl, fun u hu => h1 u (by simpa [Value.cells] using hu), fun j c u hc hu => ha j c u hc (by simpa [Value.cells] using hu)⟩
  | bool r b => simp [V.cells?] at hc; subst hc; exact ⟨rfl, fun u hu => by simp [Value.cells] at hu; subst hu; rfl, fun j c u hc hu => by
      cases j <;> simp [Value.cells] at hc hu; subst hc; subst hu; exact .bool _ _⟩
  | int r k n => simp [V.cells?] at hc; subst hc; exact ⟨rfl, fun u hu => by simp [Value.cells] at hu; subst hu; rfl, fun j c u hc hu => by
      cases j <;> simp [Value.cells] at hc hu; subst hc; subst hu; exact .int _ _ _⟩
  | str r s => simp [V.cells?] at hc; subst hc; exact ⟨rfl, fun u hu => by simp [Value.cells] at hu; subst hu; rfl, fun j c u hc hu => by
      cases j <;> simp [Value.cells] at hc hu; subst hc; subst hu; exact .str _ _⟩
  | nilp r => simp [V.cells?] at hc; subst hc; exact ⟨rfl, fun u hu => by simp [Value.cells] at hu; subst hu; rfl, fun j c u hc hu => by
      cases j <;> simp [Value.cells] at hc hu; subst hc; subst hu; exact .nilp _⟩
  | ptr k off hD => simp [V.cells?] at hc; subst hc; exact ⟨rfl, fun u hu => by simp [Value.cells] at hu; subst hu; rfl, fun j c u hc hu => by
      cases j <;> simp [Value.cells] at hc hu; subst hc; subst hu; exact .ptr _ _ hD⟩
  | ip r cs us a hl h1 hc' hr => simp [V.cells?] at hc; subst hc; exact ⟨rfl, fun u hu => by simp [Value.cells] at hu; subst hu; rfl, fun j c u hc hu => by
      cases j <;> simp [Value.cells] at hc hu; subst hc; subst hu; exact .ip _ cs us a hl h1 hc' hr⟩
  | nils r => simp [V.cells?] at hc; subst hc; exact ⟨rfl, fun u hu => by simp [Value.cells] at hu; subst hu; rfl, fun j c u hc hu => by
      cases j <;> simp [Value.cells] at hc hu; subst hc; subst hu; exact .nils _⟩
  | sl k off len cap c hD hc' hn hl => simp [V.cells?] at hc; subst hc; exact ⟨rfl, fun u hu => by simp [Value.cells] at hu; subst hu; rfl, fun j c u hc hu => by
      cases j <;> simp [Value.cells] at hc hu; subst hc; subst hu; exact .sl _ _ _ _ _ hD hc' hn hl⟩
  | is r xs clip us esz a c he hl hcap hclip h1 hc' hr => simp [V.cells?] at hc; subst hc; exact ⟨rfl, fun u hu => by simp [Value.cells] at hu; subst hu; rfl, fun j c u hc hu => by
      cases j <;> simp [Value.cells] at hc hu; subst hc; subst hu; exact .is _ xs clip us esz a _ he hl hcap hclip h1 hc' hr⟩
  | nilm r => simp [V.cells?] at hc; subst hc; exact ⟨rfl, fun u hu => by simp [Value.cells] at hu; subst hu; rfl, fun j c u hc hu => by
      cases j <;> simp [Value.cells] at hc hu; subst hc; subst hu; exact .nilm _⟩
  | mp k hD => simp [V.cells?] at hc; subst hc; exact ⟨rfl, fun u hu => by simp [Value.cells] at hu; subst hu; rfl, fun j c u hc hu => by
      cases j <;> simp [Value.cells] at hc hu; subst hc; subst hu; exact .mp _ hD⟩
  | im r es q arr ck hO hw hl hk hv => simp [V.cells?] at hc; subst hc; exact ⟨rfl, fun u hu => by simp [Value.cells] at hu; subst hu; rfl, fun j c u hc hu => by
      cases j <;> simp [Value.cells] at hc hu; subst hc; subst hu; exact .im _ es q arr ck hO hw hl hk hv⟩
  | fn r f a b A A' hl hl' ha hb => simp [V.cells?] at hc; subst hc; exact ⟨rfl, fun u hu => by simp [Value.cells] at hu; subst hu; rfl, fun j c u hc hu => by
      cases j <;> simp [Value.cells] at hc hu; subst hc; subst hu; exact .fn _ f a b A A' hl hl' (fun j x u q q' => (ha j x u q q').up) (fun j x u q q' => (hb j x u q q').up)⟩
  | nilf r => simp [V.cells?] at hc; subst hc; exact ⟨rfl, fun u hu => by simp [Value.cells] at hu; subst hu; rfl, fun j c u hc hu => by
      cases j <;> simp [Value.cells] at hc hu; subst hc; subst hu; exact .nilf _⟩
  | ifc r t v u h => simp [V.cells?] at hc; subst hc; exact ⟨rfl, fun u hu => by simp [Value.cells] at hu; subst hu; rfl, fun j c u hc hu => by
      cases j <;> simp [Value.cells] at hc hu; subst hc; subst hu; exact .ifc _ t v _ h.up⟩
  | nili r => simp [V.cells?] at hc; subst hc; exact ⟨rfl, fun u hu => by simp [Value.cells] at hu; subst hu; rfl, fun j c u hc hu => by
      cases j <;> simp [Value.cells] at hc hu; subst hc; subst hu; exact .nili _⟩
  | tm r k t => simp [V.cells?] at hc; subst hc; exact ⟨rfl, fun u hu => by simp [Value.cells] at hu; subst hu; rfl, fun j c u hc hu => by
      cases j <;> simp [Value.cells] at hc hu; subst hc; subst hu; exact .tm _ _ _⟩
  | ct r ch => simp [V.cells?] at hc; subst hc; exact ⟨rfl, fun u hu => by simp [Value.cells] at hu; subst hu; rfl, fun j c u hc hu => by
      cases j <;> simp [Value.cells] at hc hu; subst hc; subst hu; exact .ct _ _⟩
  | cb r ch u h =>
    simp [V.cells?] at hc
    subst hc
    obtain ⟨us, esz, a, c, rfl, _⟩ := h.inv_is
    exact ⟨rfl, fun u hu => by simp [Value.cells] at hu; subst hu; rfl, fun j c' u hc hu => by
      cases j <;> simp [Value.cells] at hc hu; subst hc; subst hu; exact .cb _ _ _ h⟩
  | it r xs rest k u h hk =>
    simp [V.cells?] at hc
    subst hc
    obtain ⟨us, esz, a, c, hu0, _⟩ := h.inv_is
    have hcl : u.cells.toList = [u] := by rw [hu0]; rfl
    have h1c : u.oneCell' = true := by rw [hu0]; rfl
    rw [hcl]
    exact ⟨rfl, fun u' hu => by simp at hu; subst hu; exact h1c, fun j c' u' hc hu => by
      cases j <;> simp at hc hu; subst hc; subst hu; exact .it _ _ _ _ _ h hk⟩
  | iv r k id n ix el u h hn he =>
    simp [V.cells?] at hc
    subst hc
    obtain ⟨us, esz, a, c, hu0, _⟩ := h.inv_is
    have hcl : u.cells.toList = [u] := by rw [hu0]; rfl
    have h1c : u.oneCell' = true := by rw [hu0]; rfl
    rw [hcl]
    exact ⟨rfl, fun u' hu => by simp at hu; subst hu; exact h1c, fun j c' u' hc hu => by
      cases j <;> simp at hc hu; subst hc; subst hu; exact .iv _ _ _ _ _ _ _ h hn he⟩

theorem add_add (a : Addr) (i j : Nat) (hi : 0 < i) : (a.add i).add j = a.add (i + j) := by
  obtain ⟨b, o, s⟩ := a
  unfold Addr.add
  have h1 : i ≠ 0 := by omega
  have h2 : i + j ≠ 0 := by omega
  simp only [h1, h2, if_false]
  split
  · rename_i h; subst h; simp
  · simp
theorem add_add' {w : World} (a : Addr) (i j : Nat) {u : Value} (h : w.cell? (a.add (i + j)) = some u) : w.cell? ((a.add i).add j) = some u := by
  by_cases hi : 0 < i
  · rw [add_add a i j hi]; exact h
  · have : i = 0 := by omega
    subst this
    simpa [Addr.add] using h

/-- What is loaded. -/
theorem loadC_ok (R : Rel g O0 w0 w) {a : V} {u : Value} {n : Nat} {cs : List V} {rd : List Nat} (ha : VR g w true a u) (h : loadC g.h a n = some (cs, rd)) :
    ∃ (ad : Addr) (us : List Value), u = .pointer (some ad) ∧ cs.length = n ∧ Cells g w true cs us ∧ ∀ (j : Nat) (x : Value), us[j]? = some x → w.cell? (ad.add j) = some x := by
  unfold loadC at h
  split at h
  · rename_i ccs
    split at h
    · rename_i hn
      simp only [Option.some.injEq, Prod.mk.injEq] at h
      obtain ⟨rfl, rfl⟩ := h
      obtain ⟨ad, us, rfl, hl, h1, hc, hr⟩ := ha.inv_ip
      have C : Cells g w false ccs us := ⟨hl, h1, hr⟩
      refine ⟨ad, us.take n, rfl, by simp; omega, (C.take n).up, fun j x hx => ?_⟩
      rw [List.getElem?_take] at hx
      split at hx
      · exact (hc j x hx).2
      · cases hx
    · cases h
  · rename_i k off
    split at h
    · rename_i ccs esz hk
      split at h
      · rename_i hn
        simp only [Option.some.injEq, Prod.mk.injEq] at h
        obtain ⟨rfl, rfl⟩ := h
        obtain ⟨_, rfl⟩ := ha.inv_ptr
        have ho := R.obj k
        rw [hk] at ho
        obtain ⟨arr, t, hh, hl, _, hr⟩ := ho
        refine ⟨_, (arr.toList.drop off).take n, rfl, by simp; omega, ⟨by simp; omega, ?_, ?_⟩, ?_⟩
        · intro u hu
          obtain ⟨j, hj⟩ := List.mem_iff_getElem?.1 hu
          rw [List.getElem?_take] at hj
          split at hj
          · rename_i hjn
            rw [List.getElem?_drop, Array.getElem?_toList] at hj
            exact (hr _ (ccs[off + j]'(by omega)) u (List.getElem?_eq_getElem _) hj).1
          · cases hj
        · intro j c u hc hu
          rw [List.getElem?_take] at hc hu
          split at hc
          · rename_i hjn
            rw [if_pos hjn] at hu
            rw [List.getElem?_drop] at hc hu
            rw [Array.getElem?_toList] at hu
            exact (hr _ c u hc hu).2
          · cases hc
        · intro j x hx
          rw [List.getElem?_take] at hx
          split at hx
          · rw [List.getElem?_drop, Array.getElem?_toList] at hx
            rw [Addr.add_lit, cell_of_row w _ _ _ _ _ hh]
            exact hx
          · cases hx
      · cases h
    · cases h
  · cases h

theorem loadVar_ok {t : TypeId} {gg : Option Nat} {ad : Addr} {cs : List V} {us : List Value} {v : V} (hg : aggOf P t = some gg) (hl : cs.length = gg.getD 1) (C : Cells g w true cs us)
    (hc : ∀ (j : Nat) (x : Value), us[j]? = some x → w.cell? (ad.add j) = some x) (hs : shapeOf gg cs = some v) : ∃ u, (loadVar t ad).run P w = .ok u w ∧ VR g w true v u := by
  cases gg with
  | some n =>
    obtain ⟨h1, h2⟩ := aggOf_some hg
    have hn : us.length = n := by rw [C.len]; simpa using hl
    refine ⟨_, ?_, shape_some C hs⟩
    have := run_loadCells_list (P := P) w ad us hc
    rw [hn] at this
    simp [loadVar, h1, szOf_run h2, this]
  | none =>
    obtain ⟨u, rfl, hu⟩ := shape_none C hs
    refine ⟨u, ?_, hu⟩
    have := hc 0 u rfl
    simp only [Addr.add, if_true] at this
    simp [loadVar, aggOf_none hg, this]

theorem op_load (R : Rel g O0 w0 w) (E : Evs g w e ρ) {t : TypeId} {a : Operand} {a' : Od} {gg : Option Nat} (ho : o.op = .load t a) (hg : aggOf P t = some gg) (ha : odOf a = some a')
    (hv : vop call g.h N e (.load gg a') = some (.ok rc)) : OpOk P ρ o g O0 w0 w rc := by
  have h1 := od_ok E ha
  simp only [vop, v_mov, v_pick, v_new, v_box, v_build, v_buildS, v_load, v_store, v_nilc, v_bin, v_una, v_conv, v_mkI, v_mkF, v_mkM, v_mkS, v_slc, v_fad, v_fld, v_iad, v_idx, v_look, v_mset, v_rng, v_nxt, v_tas, v_ext, v_call, v_calld, v_len, v_app, v_copy, v_clearM, v_clearS, v_del, v_mx, v_pan] at hv
  split at hv
  · rename_i cs rd hq
    simp only [Option.map_eq_some_iff] at hv
    obtain ⟨v, hs, hrc⟩ := hv
    simp only [Res.ok.injEq] at hrc
    subst hrc
    obtain ⟨ad, us, hu, hl, C, hc⟩ := loadC_ok R h1 hq
    obtain ⟨u, hr, hvr⟩ := loadVar_ok hg hl C hc hs
    refine OpOk.pure R rd (u := u) ?_ hvr
    simp [execOp, ho, Instr.loadAt, hu, Instr.sureAddr, hr]
  · cases hv

theorem op_fld (R : Rel g O0 w0 w) (E : Evs g w e ρ) {s : TypeId} {x : Operand} {x' : Od} {f : Nat} {fs : Array Field} {fd : Field} {gg : Option Nat} (ho : o.op = .field s x f)
    (hs : P.underlying s = some (.struct fs)) (hf : fs[f]? = some fd) (hg : aggOf P fd.type = some gg) (hx : odOf x = some x')
    (hv : vop call g.h N e (.fld fd.offset gg x') = some (.ok rc)) : OpOk P ρ o g O0 w0 w rc := by
  have h1 := od_ok E hx
  simp only [vop, v_mov, v_pick, v_new, v_box, v_build, v_buildS, v_load, v_store, v_nilc, v_bin, v_una, v_conv, v_mkI, v_mkF, v_mkM, v_mkS, v_slc, v_fad, v_fld, v_iad, v_idx, v_look, v_mset, v_rng, v_nxt, v_tas, v_ext, v_call, v_calld, v_len, v_app, v_copy, v_clearM, v_clearS, v_del, v_mx, v_pan] at hv
  split at hv
  · rename_i cs hq
    rw [hq] at h1
    obtain ⟨U, hU, hl, hone, ha⟩ := h1.inv_agg
    have C : Cells g w true cs U.toList := ⟨by simpa using hl, fun u hu => hone u (by simpa using hu), fun j c u hc hu => ha j c u hc (by simpa using hu)⟩
    split at hv
    · rename_i hn
      split at hv
      · rename_i v hv'
        simp [ok1] at hv
        subst hv
        have C' := (C.drop fd.offset).take (gg.getD 1)
        have key : ∃ u, (part fd.type U fd.offset).run P w = .ok u w ∧ VR g w true v u := by
          cases gg with
          | some n =>
            obtain ⟨q1, q2⟩ := aggOf_some hg
            refine ⟨_, ?_, shape_some C' hv'⟩
            simp only [part, Sem.run_bind, q1, Result.andThen_ok, if_true, szOf_run q2, Sem.run_pure]
            congr 2
            apply Array.ext'
            simp [List.take_drop, Nat.add_comm]
          | none =>
            obtain ⟨u, q1, q2⟩ := shape_none C' hv'
            refine ⟨u, ?_, q2⟩
            have q3 : U[fd.offset]? = some u := by
              have := congrArg (·[0]?) q1
              simpa [List.getElem?_take, List.getElem?_drop] using this
            simp [part, aggOf_none hg, q3]
        obtain ⟨u, k1, k2⟩ := key
        refine OpOk.pure R [] (u := u) ?_ k2
        simp [execOp, ho, Instr.field, run_underlying hs, hf, hU, asAgg, k1]
      · cases hv
    · cases hv
  · cases hv

theorem op_conv_int (R : Rel g O0 w0 w) (E : Evs g w e ρ) {s d : TypeId} {x : Operand} {x' : Od} {k0 k : IntKind} (ho : o.op = .convert s d x)
    (hs : P.underlying s = some (.int k0)) (hd : P.underlying d = some (.int k)) (hx : odOf x = some x')
    (hv : vop call g.h N e (.conv (.int k) x') = some (.ok rc)) : OpOk P ρ o g O0 w0 w rc := by
  have h1 := od_ok E hx
  simp only [vop, v_mov, v_pick, v_new, v_box, v_build, v_buildS, v_load, v_store, v_nilc, v_bin, v_una, v_conv, v_mkI, v_mkF, v_mkM, v_mkS, v_slc, v_fad, v_fld, v_iad, v_idx, v_look, v_mset, v_rng, v_nxt, v_tas, v_ext, v_call, v_calld, v_len, v_app, v_copy, v_clearM, v_clearS, v_del, v_mx, v_pan] at hv
  split at hv
  · rename_i q2
    simp [ok1] at hv
    subst hv
    rw [q2] at h1
    have h1 := h1.inv_int
    refine OpOk.pure R [] ?_ (.int _ _ _)
    simp [execOp, ho, h1, convert, run_underlying hs, run_underlying hd, Conv.intToInt]
  · rename_i q2
    simp [ok1] at hv
    subst hv
    rw [q2] at h1
    have h1 := h1.inv_tm
    refine OpOk.pure R [] ?_ (.tm _ _ _)
    simp [execOp, ho, h1, convert, run_underlying hs, run_underlying hd, Conv.intToInt, Tm.ev, tmEv]
  · cases hv

theorem op_conv_same (R : Rel g O0 w0 w) (E : Evs g w e ρ) {s d : TypeId} {x : Operand} {x' : Od} (ho : o.op = .convert s d x)
    (hs : P.underlying s = some .string) (hd : P.underlying d = some .string) (hx : odOf x = some x')
    (hv : vop call g.h N e (.conv .same x') = some (.ok rc)) : OpOk P ρ o g O0 w0 w rc := by
  have h1 := od_ok E hx
  simp only [vop, v_mov, v_pick, v_new, v_box, v_build, v_buildS, v_load, v_store, v_nilc, v_bin, v_una, v_conv, v_mkI, v_mkF, v_mkM, v_mkS, v_slc, v_fad, v_fld, v_iad, v_idx, v_look, v_mset, v_rng, v_nxt, v_tas, v_ext, v_call, v_calld, v_len, v_app, v_copy, v_clearM, v_clearS, v_del, v_mx, v_pan] at hv
  split at hv
  · rename_i q2
    simp [ok1] at hv
    subst hv
    rw [q2] at h1
    have h1 := h1.inv_str
    refine OpOk.pure R [] ?_ (.str _ _)
    simp [execOp, ho, h1, convert, run_underlying hs, run_underlying hd]
  · cases hv

theorem zero1_run {t : TypeId} {z : V} (h : zero1 P t = some z) (w : World) : ∃ zv, (zeroValue t).run P w = .ok zv w ∧ ∀ (g : G) (r : Bool), VR g w r z zv := by
  unfold zero1 at h
  split at h
  · rename_i zv hz
    cases hi : P.info? t with
    | none => rw [hi] at hz; cases hz
    | some i =>
      rw [hi] at hz
      simp at hz
      exact ⟨zv, by simp [zeroValue, typeInfo, hi, hz], fun g r => ofVal_ok h⟩
  · cases h

theorem op_tas (R : Rel g O0 w0 w) (E : Evs g w e ρ) {xt t : TypeId} {x : Operand} {x' : Od} {ok : Bool} {z : V} {d : TypeDesc} (ho : o.op = .typeAssert x xt t ok)
    (hd : P.underlying t = some d) (hn : ∀ ms, d ≠ .interface ms) (hz : zero1 P t = some z) (hx : odOf x = some x')
    (hv : vop call g.h N e (.tas t z ok x') = some (.ok rc)) : OpOk P ρ o g O0 w0 w rc := by
  have h1 := od_ok E hx
  obtain ⟨zv, hzr, hzv⟩ := zero1_run hz w
  have tupz : VR g w true (.tup [z, .bool false]) (.tuple #[zv, .bool false]) := .tup _ _ _ rfl fun j x u hx hu => by
    match j with
    | 0 => simp at hx hu; subst hx; subst hu; exact hzv g true
    | 1 => simp at hx hu; subst hx; subst hu; exact .bool _ _
    | j + 2 => simp at hx
  simp only [vop, v_mov, v_pick, v_new, v_box, v_build, v_buildS, v_load, v_store, v_nilc, v_bin, v_una, v_conv, v_mkI, v_mkF, v_mkM, v_mkS, v_slc, v_fad, v_fld, v_iad, v_idx, v_look, v_mset, v_rng, v_nxt, v_tas, v_ext, v_call, v_calld, v_len, v_app, v_copy, v_clearM, v_clearS, v_del, v_mx, v_pan] at hv
  split at hv
  · rename_i u v hq
    rw [hq] at h1
    obtain ⟨y, hy, hr⟩ := h1.inv_ifc
    by_cases hu : u = t
    · subst hu
      rw [if_pos rfl] at hv
      simp [ok1] at hv
      subst hv
      refine OpOk.pure R [] (u := if ok then .tuple #[y, .bool true] else y) ?_ ?_
      · simp only [execOp, ho, Sem.run_bind, Instr.typeAssert, run_underlying hd, Result.andThen_ok, hy]
        cases d <;> first | exact absurd rfl (hn _) | simp
      · cases ok
        · exact hr
        · exact .tup _ _ _ rfl fun j x u hx hu => by
            match j with
            | 0 => simp at hx hu; subst hx; subst hu; exact hr
            | 1 => simp at hx hu; subst hx; subst hu; exact .bool _ _
            | j + 2 => simp at hx
    · rw [if_neg hu] at hv
      split at hv
      · rename_i hok
        simp [ok1] at hv
        subst hv
        refine OpOk.pure R [] (u := .tuple #[zv, .bool false]) ?_ tupz
        simp only [execOp, ho, Sem.run_bind, Instr.typeAssert, run_underlying hd, Result.andThen_ok, hy]
        cases d <;> first | exact absurd rfl (hn _) | simp [hu, hok, hzr]
      · cases hv
  · rename_i hq
    rw [hq] at h1
    have h1 := h1.inv_nili
    split at hv
    · rename_i hok
      simp [ok1] at hv
      subst hv
      refine OpOk.pure R [] (u := .tuple #[zv, .bool false]) ?_ tupz
      simp only [execOp, ho, Sem.run_bind, Instr.typeAssert, run_underlying hd, Result.andThen_ok, h1]
      cases d <;> first | exact absurd rfl (hn _) | simp [hok, hzr]
    · cases hv
  · cases hv
end
end Go.Pv
namespace Go.Pv
variable [Sy]
section
variable {P : Program} {ρ : Operand → Value} {o : Oper} {g : G} {O0 : Nat → Prop} {w0 w : World} {e : Env} {N : Nat} {rc : Rec} {call : Callf}

theorem sameL_append : ∀ {ks ls : List CK} {a c b d : List V} {r : Bool}, ks.length = a.length → a.length = c.length → sameL (ks ++ ls) (a ++ b) (c ++ d) = some r →
    ∃ r1 r2, sameL ks a c = some r1 ∧ sameL ls b d = some r2 ∧ r = (r1 && r2)
  | [], ls, [], [], b, d, r, _, _, h => ⟨true, r, rfl, h, rfl⟩
  | k :: ks, ls, x :: a, y :: c, b, d, r, hk, hl, h => by
    simp only [List.cons_append, sameL] at h
    split at h
    · rename_i r1 q h1 h2
      obtain ⟨s1, s2, k1, k2, rfl⟩ := sameL_append (by simpa using hk) (by simpa using hl) h2
      simp at h
      subst h
      exact ⟨r1 && s1, s2, by simp [sameL, h1, k1], k2, by rw [Bool.and_assoc]⟩
    · cases h
theorem sameL_len : ∀ {ks : List CK} {a b : List V} {r : Bool}, sameL ks a b = some r → ks.length = a.length ∧ a.length = b.length
  | [], [], [], r, h => ⟨rfl, rfl⟩
  | k :: ks, x :: a, y :: b, r, h => by
    simp only [sameL] at h
    split at h
    · rename_i h1 h2
      have := sameL_len h2
      simp [this.1, this.2]
    · cases h
  | [], [], _ :: _, r, h => by simp [sameL] at h
  | [], _ :: _, [], r, h => by simp [sameL] at h
  | [], _ :: _, _ :: _, r, h => by simp [sameL] at h
  | _ :: _, [], [], r, h => by simp [sameL] at h
  | _ :: _, [], _ :: _, r, h => by simp [sameL] at h
  | _ :: _, _ :: _, [], r, h => by simp [sameL] at h

theorem toList_str (s : List UInt8) : (⟨s.toArray⟩ : ByteArray).toList = s := by rw [ByteArray.toList_eq]

/-- One cell. -/
theorem eq_one {t : TypeId} {k : CK} {a b : V} {A B : Value} {r : Bool} (hd : match k with | .bool => P.underlying t = some .bool | .int => ∃ i, P.underlying t = some (.int i) | .str => P.underlying t = some .string)
    (ha : VR g w true a A) (hb : VR g w true b B) (h : sameC k a b = some r) (m : Nat) : (Op.equalIn (m + 1) t A B).run P w = .ok r w := by
  unfold sameC at h
  split at h
  · simp at h; subst h
    rw [ha.inv_bool, hb.inv_bool]
    simp [Op.equalIn, run_underlying hd]
  · split at h
    · rename_i hk
      simp at h; subst h; subst hk
      rw [ha.inv_int, hb.inv_int]
      obtain ⟨i, hd⟩ := hd
      simp [Op.equalIn, run_underlying hd]
    · cases h
  · simp at h; subst h
    rw [ha.inv_str, hb.inv_str, run_equalIn_string _ _ _ _ _ hd, toList_str, toList_str]
  · cases h

theorem szOf_isAgg {t : TypeId} (hd : match P.underlying t with | some (.struct _) | some (.array _ _) => False | some _ => True | none => False) (w : World) : (isAgg t).run P w = .ok false w := by
  cases hu : P.underlying t with
  | none => rw [hu] at hd; exact hd.elim
  | some d =>
    rw [hu] at hd
    simp only [isAgg, Sem.run_bind, run_underlying hu, Result.andThen_ok]
    cases d <;> first | rfl | exact hd.elim

theorem extract_list (A : Array Value) (off n : Nat) : (A.extract off (off + n)).toList = (A.toList.drop off).take n := by
  rw [Array.toList_extract, List.extract_eq_take_drop, Nat.add_sub_cancel_left]
/-- A part of a row, and what it is held against. -/
theorem part_eq : ∀ (d : Nat) (t : TypeId) (ks : List CK), flatK P d t = some ks → ∀ (n off : Nat), szOf P t = some n → ks.length = n → ∀ (A B : Array Value) (xs ys : List V) (r : Bool),
    Cells g w true xs ((A.toList.drop off).take n) → Cells g w true ys ((B.toList.drop off).take n) → sameL ks xs ys = some r →
    ∃ p q, (part t A off).run P w = .ok p w ∧ (part t B off).run P w = .ok q w ∧ (∀ m, d ≤ m → (Op.equalIn m t p q).run P w = .ok r w) ∧
      ((∃ fs, P.underlying t = some (.struct fs)) → p = .agg (A.extract off (off + n)) ∧ q = .agg (B.extract off (off + n)))
  | 0, t, ks, h => by simp [flatK] at h
  | d + 1, t, ks, h => by
    intro n off hn hlen A B xs ys r CA CB hs
    have single : ∀ (k : CK), ks = [k] → n = 1 → (∀ w, (isAgg t).run P w = .ok false w) → (match k with | .bool => P.underlying t = some .bool | .int => ∃ i, P.underlying t = some (.int i) | .str => P.underlying t = some .string) → (¬ ∃ fs, P.underlying t = some (.struct fs)) →
        ∃ p q, (part t A off).run P w = .ok p w ∧ (part t B off).run P w = .ok q w ∧ (∀ m, d + 1 ≤ m → (Op.equalIn m t p q).run P w = .ok r w) ∧
          ((∃ fs, P.underlying t = some (.struct fs)) → p = .agg (A.extract off (off + n)) ∧ q = .agg (B.extract off (off + n))) := by
      intro k hk h1 hag hdk hns
      subst hk; subst h1
      obtain ⟨l1, l2⟩ := sameL_len hs
      match xs, ys, l1, l2, hs, CA, CB with
      | [x], [y], _, _, hs, CA, CB =>
        have hA := CA.len
        have hB := CB.len
        have hA' : off < A.size := by simp at hA; omega
        have hB' : off < B.size := by simp at hB; omega
        have ga : ((A.toList.drop off).take 1)[0]? = some A[off] := by simp [hA']
        have gb : ((B.toList.drop off).take 1)[0]? = some B[off] := by simp [hB']
        refine ⟨A[off], B[off], ?_, ?_, ?_, fun hh => absurd hh hns⟩
        · simp [part, hag, hA']
        · simp [part, hag, hB']
        · intro m hm
          obtain ⟨m, rfl⟩ : ∃ q, m = q + 1 := ⟨m - 1, by omega⟩
          have hr : sameC k x y = some r := by
            simp only [sameL] at hs
            split at hs
            · rename_i r1 q h1 h2
              simp at h2 hs
              subst h2
              rw [h1, ← hs]; simp
            · cases hs
          exact eq_one hdk (CA.rel 0 x _ rfl ga) (CB.rel 0 y _ rfl gb) hr m
    simp only [flatK] at h
    split at h
    · rename_i hd
      split at h
      · rename_i h1
        rw [hn] at h1
        simp at h h1
        exact single .bool h.symm h1 (fun w => szOf_isAgg (by rw [hd]; trivial) w) hd (by rintro ⟨fs, hfs⟩; rw [hd] at hfs; cases hfs)
      · cases h
    · rename_i i hd
      split at h
      · rename_i h1
        rw [hn] at h1
        simp at h h1
        exact single .int h.symm h1 (fun w => szOf_isAgg (by rw [hd]; trivial) w) ⟨i, hd⟩ (by rintro ⟨fs, hfs⟩; rw [hd] at hfs; cases hfs)
      · cases h
    · rename_i hd
      split at h
      · rename_i h1
        rw [hn] at h1
        simp at h h1
        exact single .str h.symm h1 (fun w => szOf_isAgg (by rw [hd]; trivial) w) hd (by rintro ⟨fs, hfs⟩; rw [hd] at hfs; cases hfs)
      · cases h
    · rename_i fs hd
      split at h
      · cases h
      · rename_i hst
        have hag : ∀ w, (isAgg t).run P w = .ok true w := fun w => by simp [isAgg, run_underlying hd]
        refine ⟨.agg (A.extract off (off + n)), .agg (B.extract off (off + n)), ?_, ?_, ?_, fun _ => ⟨rfl, rfl⟩⟩
        · simp [part, hag, szOf_run hn]
        · simp [part, hag, szOf_run hn]
        · intro m hm
          obtain ⟨m, rfl⟩ : ∃ q, m = q + 1 := ⟨m - 1, by omega⟩
          have hf : P.fieldsOf t = fs := by simp [Program.fieldsOf, hd]
          rw [run_equalIn_struct w m t _ _ (by rw [hf]; exact hd) (by simpa using hst), hf]
          generalize hA' : A.extract off (off + n) = A'
          generalize hB' : B.extract off (off + n) = B'
          have CA' : Cells g w true xs A'.toList := by rw [← hA', extract_list]; exact CA
          have CB' : Cells g w true ys B'.toList := by rw [← hB', extract_list]; exact CB
          clear CA CB hA' hB' hd hf single
          -- the fields, one by one
          have go : ∀ (fl : List Field) (at_ : Nat) (ks : List CK) (xs ys : List V) (r : Bool), flatKs P (flatK P d) at_ fl (szOf P t) = some ks → Cells g w true xs (A'.toList.drop at_) → Cells g w true ys (B'.toList.drop at_) →
              sameL ks xs ys = some r → (Op.eqFields m A' B' fl).run P w = .ok r w := by
            intro fl
            induction fl with
            | nil =>
              intro at_ ks xs ys r h CA CB hs
              simp only [flatKs] at h
              split at h
              · simp at h
                subst h
                obtain ⟨l1, l2⟩ := sameL_len hs
                match xs, ys, l1, l2, hs with
                | [], [], _, _, hs => simp [sameL] at hs; subst hs; simp [Op.eqFields]
              · cases h
            | cons f fl ih =>
              intro at_ ks xs ys r h CA CB hs
              simp only [flatKs] at h
              split at h
              · rename_i k1 sz hk1 hsz
                split at h
                · rename_i hcond
                  obtain ⟨hnm, hoff, hkl⟩ := hcond
                  simp only [Option.map_eq_some_iff] at h
                  obtain ⟨k2, hk2, rfl⟩ := h
                  obtain ⟨l1, l2⟩ := sameL_len hs
                  have hx1 : sz ≤ xs.length := by simp at l1; omega
                  have hs' : sameL (k1 ++ k2) (xs.take sz ++ xs.drop sz) (ys.take sz ++ ys.drop sz) = some r := by simpa using hs
                  obtain ⟨r1, r2, h1, h2, rfl⟩ := sameL_append (by simp; omega) (by simp [l2]) hs'
                  subst hoff
                  obtain ⟨p, q, hp, hq, he, _⟩ := part_eq d f.type k1 hk1 sz f.offset hsz hkl A' B' (xs.take sz) (ys.take sz) r1 (CA.take sz) (CB.take sz) h1
                  have hrest := ih (f.offset + sz) k2 (xs.drop sz) (ys.drop sz) r2 hk2 (by simpa [List.drop_drop] using CA.drop sz) (by simpa [List.drop_drop] using CB.drop sz) h2
                  simp only [Op.eqFields, hnm, ne_eq, not_false_eq_true, if_true, Sem.run_bind, hp, hq, Result.andThen_ok, he m (by omega)]
                  cases r1
                  · simp
                  · simpa using hrest
                · cases h
              · cases h
          exact go fs.toList 0 ks xs ys r h (by simpa using CA') (by simpa using CB') hs
    · cases h
end
end Go.Pv
namespace Go.Pv
variable [Sy]
section
variable {P : Program} {ρ : Operand → Value} {o : Oper} {g : G} {O0 : Nat → Prop} {w0 w : World} {e : Env} {N : Nat} {rc : Rec} {call : Callf}

theorem flatKs_sz {p : TypeId → Option (List CK)} : ∀ {fs : List Field} {at_ : Nat} {s : Option Nat} {ks : List CK}, flatKs P p at_ fs s = some ks → s = some (at_ + ks.length)
  | [], at_, s, ks, h => by
    simp only [flatKs] at h
    split at h
    · rename_i hs; simp at h; subst h; simpa using hs
    · cases h
  | f :: fs, at_, s, ks, h => by
    simp only [flatKs] at h
    split at h
    · split at h
      · rename_i hc
        simp only [Option.map_eq_some_iff] at h
        obtain ⟨k2, h2, rfl⟩ := h
        have := flatKs_sz h2
        rw [this, List.length_append, ← hc.2.2]
        congr 1
        omega
      · cases h
    · cases h
theorem flatK_sz : ∀ {d : Nat} {t : TypeId} {ks : List CK}, flatK P d t = some ks → szOf P t = some ks.length
  | 0, t, ks, h => by simp [flatK] at h
  | d + 1, t, ks, h => by
    simp only [flatK] at h
    split at h
    · split at h
      · rename_i h1; simp at h; subst h; exact h1
      · cases h
    · split at h
      · rename_i h1; simp at h; subst h; exact h1
      · cases h
    · split at h
      · rename_i h1; simp at h; subst h; exact h1
      · cases h
    · split at h
      · cases h
      · simpa using flatKs_sz h
    · cases h

theorem guard_other {op : BinOp} (h1 : op ≠ .eql) (h2 : op ≠ .neq) (t : TypeId) (x y : Operand) (a b : Value) : (eqGuard op t x y a b).run P w = .ok () w := by
  cases op <;> first | exact absurd rfl h1 | exact absurd rfl h2 | simp [eqGuard]

theorem isConst_some {x : Operand} (h : isConst x = true) : ∃ v, x = .const v := by
  cases x <;> simp [isConst] at h; exact ⟨_, rfl⟩

theorem eqOk_bool {t : TypeId} {x y : Operand} (hk : eqOk P t x y = .bool) : P.underlying t = some .bool := by
  unfold eqOk at hk
  split at hk <;> first | (rename_i q; exact q) | (exfalso; first | (cases hk; done) | (split at hk <;> first | (cases hk; done) | (split at hk <;> cases hk)))
theorem eqOk_ptr {t : TypeId} {x y : Operand} (hk : eqOk P t x y = .ptr) : ∃ el, P.underlying t = some (.pointer el) := by
  unfold eqOk at hk
  split at hk <;> first | (exfalso; first | (cases hk; done) | (split at hk <;> first | (cases hk; done) | (split at hk <;> cases hk)); done) | (rename_i q; exact ⟨_, q⟩)
theorem eqOk_ifc {t : TypeId} {x y : Operand} (hk : eqOk P t x y = .ifc) : ∃ ms, P.underlying t = some (.interface ms) ∧ (isConst x = true ∨ isConst y = true) := by
  unfold eqOk at hk
  split at hk <;> first
    | (rename_i q; split at hk <;> first | (rename_i hc; exact ⟨_, q, by simpa using hc⟩) | (exfalso; cases hk; done))
    | (exfalso; first | (cases hk; done) | (split at hk <;> first | (cases hk; done) | (split at hk <;> cases hk)))
theorem eqOk_agg {t : TypeId} {x y : Operand} {ks : List CK} (hk : eqOk P t x y = .agg ks) : ∃ fs, P.underlying t = some (.struct fs) ∧ flatK P 8 t = some ks ∧ P.eqGuardType P.depth t = false := by
  unfold eqOk at hk
  split at hk
  · cases hk
  · cases hk
  · cases hk
  · cases hk
  · split at hk <;> cases hk
  · rename_i fs q
    split at hk
    · rename_i ks' hks
      split at hk
      · cases hk
      · rename_i hg
        cases hk
        exact ⟨fs, q, hks, by simpa using hg⟩
    · cases hk
  · cases hk

theorem run_eqIn_nil1 {t el : TypeId} (hd : P.underlying t = some (.pointer el)) (m : Nat) (b : Option Addr) : (Op.equalIn (m + 1) t (.pointer none) (.pointer b)).run P w = .ok b.isNone w := by
  simp [Op.equalIn, run_underlying hd]
theorem run_eq_nil1 {t el : TypeId} (hd : P.underlying t = some (.pointer el)) (b : Option Addr) : (Op.equal t (.pointer none) (.pointer b)).run P w = .ok b.isNone w := run_eqIn_nil1 hd 9999 b
theorem run_eqIn_nil2 {t el : TypeId} (hd : P.underlying t = some (.pointer el)) (m : Nat) (a : Addr) : (Op.equalIn (m + 1) t (.pointer (some a)) (.pointer none)).run P w = .ok false w := by
  simp [Op.equalIn, run_underlying hd]
theorem run_eq_nil2 {t el : TypeId} (hd : P.underlying t = some (.pointer el)) (a : Addr) : (Op.equal t (.pointer (some a)) (.pointer none)).run P w = .ok false w := run_eqIn_nil2 hd 9999 a
theorem run_eqIn_ifc0 {t : TypeId} {ms : Array (String × TypeId)} (hd : P.underlying t = some (.interface ms)) (m : Nat)  : (Op.equalIn (m + 1) t .nilIface .nilIface).run P w = .ok true w := by
  simp [Op.equalIn, run_underlying hd]
theorem run_eq_ifc0 {t : TypeId} {ms : Array (String × TypeId)} (hd : P.underlying t = some (.interface ms))  : (Op.equal t .nilIface .nilIface).run P w = .ok true w := run_eqIn_ifc0 hd 9999 
theorem run_eqIn_ifc1 {t : TypeId} {ms : Array (String × TypeId)} (hd : P.underlying t = some (.interface ms)) (m : Nat) (u : TypeId) (v : Value) : (Op.equalIn (m + 1) t .nilIface (.iface u v)).run P w = .ok false w := by
  simp [Op.equalIn, run_underlying hd]
theorem run_eq_ifc1 {t : TypeId} {ms : Array (String × TypeId)} (hd : P.underlying t = some (.interface ms)) (u : TypeId) (v : Value) : (Op.equal t .nilIface (.iface u v)).run P w = .ok false w := run_eqIn_ifc1 hd 9999 u v
theorem run_eqIn_ifc2 {t : TypeId} {ms : Array (String × TypeId)} (hd : P.underlying t = some (.interface ms)) (m : Nat) (u : TypeId) (v : Value) : (Op.equalIn (m + 1) t (.iface u v) .nilIface).run P w = .ok false w := by
  simp [Op.equalIn, run_underlying hd]
theorem run_eq_ifc2 {t : TypeId} {ms : Array (String × TypeId)} (hd : P.underlying t = some (.interface ms)) (u : TypeId) (v : Value) : (Op.equal t (.iface u v) .nilIface).run P w = .ok false w := run_eqIn_ifc2 hd 9999 u v
/-- '==' -/
theorem eql_ok {t : TypeId} {x y : Operand} {a b : V} {r : Bool} (ha : VR g w true a (ρ x)) (hb : VR g w true b (ρ y)) (h : sameV (eqOk P t x y) a b = some r) :
    (eqGuard .eql t x y (ρ x) (ρ y)).run P w = .ok () w ∧ (eqGuard .neq t x y (ρ x) (ρ y)).run P w = .ok () w ∧
    (binOp .eql t (ρ x) (ρ y)).run P w = .ok (.bool r) w ∧ (binOp .neq t (ρ x) (ρ y)).run P w = .ok (.bool (!r)) w := by
  generalize hk : eqOk P t x y = kq at h
  unfold sameV at h
  split at h
  · split at h
    · rename_i hkl
      simp at h; subst h; subst hkl
      rw [ha.inv_int, hb.inv_int]
      refine ⟨by simp [eqGuard], by simp [eqGuard], by simp [binOp, Op.intCmp], ?_⟩
      simp [binOp, Op.intCmp]; rfl
    · cases h
  · simp at h; subst h
    rw [ha.inv_str, hb.inv_str]
    exact ⟨by simp [eqGuard], by simp [eqGuard], by simp [binOp, Op.stringOp], by simp [binOp, Op.stringOp]⟩
  · simp at h; subst h
    have hd := eqOk_bool hk
    rw [ha.inv_bool, hb.inv_bool]
    exact ⟨by simp [eqGuard], by simp [eqGuard], by simp [binOp, run_equal_bool _ _ _ _ hd], by simp [binOp, run_equal_bool _ _ _ _ hd]⟩
  · simp at h; subst h
    obtain ⟨el, hd⟩ := eqOk_ptr hk
    rw [ha.inv_nilp, hb.inv_nilp]
    exact ⟨by simp [eqGuard], by simp [eqGuard], by simp [binOp, run_eq_nil1 hd], by simp [binOp, run_eq_nil1 hd]⟩
  · simp at h; subst h
    obtain ⟨el, hd⟩ := eqOk_ptr hk
    obtain ⟨_, hb⟩ := hb.inv_ptr
    rw [ha.inv_nilp, hb]
    exact ⟨by simp [eqGuard], by simp [eqGuard], by simp [binOp, run_eq_nil1 hd], by simp [binOp, run_eq_nil1 hd]⟩
  · simp at h; subst h
    obtain ⟨el, hd⟩ := eqOk_ptr hk
    obtain ⟨_, _, hb, _⟩ := hb.inv_ip
    rw [ha.inv_nilp, hb]
    exact ⟨by simp [eqGuard], by simp [eqGuard], by simp [binOp, run_eq_nil1 hd], by simp [binOp, run_eq_nil1 hd]⟩
  · simp at h; subst h
    obtain ⟨el, hd⟩ := eqOk_ptr hk
    obtain ⟨_, ha⟩ := ha.inv_ptr
    rw [hb.inv_nilp, ha]
    exact ⟨by simp [eqGuard], by simp [eqGuard], by simp [binOp, run_eq_nil2 hd], by simp [binOp, run_eq_nil2 hd]⟩
  · simp at h; subst h
    obtain ⟨el, hd⟩ := eqOk_ptr hk
    obtain ⟨_, _, ha, _⟩ := ha.inv_ip
    rw [hb.inv_nilp, ha]
    exact ⟨by simp [eqGuard], by simp [eqGuard], by simp [binOp, run_eq_nil2 hd], by simp [binOp, run_eq_nil2 hd]⟩
  · simp at h; subst h
    obtain ⟨ms, hd, hc⟩ := eqOk_ifc hk
    rw [ha.inv_nili, hb.inv_nili]
    have hg : ∀ op, (eqGuard op t x y .nilIface .nilIface).run P w = .ok () w := by
      intro op
      rcases hc with hc | hc <;> obtain ⟨v, rfl⟩ := isConst_some hc <;> cases op <;> simp [eqGuard]
    exact ⟨hg _, hg _, by simp [binOp, run_eq_ifc0 hd], by simp [binOp, run_eq_ifc0 hd]⟩
  · simp at h; subst h
    obtain ⟨ms, hd, hc⟩ := eqOk_ifc hk
    obtain ⟨_, hb, _⟩ := hb.inv_ifc
    rw [ha.inv_nili, hb]
    exact ⟨by simp [eqGuard], by simp [eqGuard], by simp [binOp, run_eq_ifc1 hd], by simp [binOp, run_eq_ifc1 hd]⟩
  · simp at h; subst h
    obtain ⟨ms, hd, hc⟩ := eqOk_ifc hk
    obtain ⟨_, ha, _⟩ := ha.inv_ifc
    rw [ha, hb.inv_nili]
    exact ⟨by simp [eqGuard], by simp [eqGuard], by simp [binOp, run_eq_ifc2 hd], by simp [binOp, run_eq_ifc2 hd]⟩
  · rename_i ks xs ys
    obtain ⟨fs, hd, hf, hg⟩ := eqOk_agg hk
    obtain ⟨A, hA, la, h1a, ra⟩ := ha.inv_agg
    obtain ⟨B, hB, lb, h1b, rb⟩ := hb.inv_agg
    rw [hA, hB]
    have hsz := flatK_sz hf
    obtain ⟨l1, l2⟩ := sameL_len h
    have CA : Cells g w true xs ((A.toList.drop 0).take ks.length) := by
      rw [List.drop_zero, List.take_of_length_le (by simp; omega)]
      exact ⟨by simpa using la, fun u hu => h1a u (by simpa using hu), fun j c u hc hu => ra j c u hc (by simpa using hu)⟩
    have CB : Cells g w true ys ((B.toList.drop 0).take ks.length) := by
      rw [List.drop_zero, List.take_of_length_le (by simp; omega)]
      exact ⟨by simpa using lb, fun u hu => h1b u (by simpa using hu), fun j c u hc hu => rb j c u hc (by simpa using hu)⟩
    obtain ⟨p, q, _, _, he, hpq⟩ := part_eq 8 t ks hf ks.length 0 hsz rfl A B xs ys r CA CB h
    obtain ⟨rfl, rfl⟩ := hpq ⟨fs, hd⟩
    have eA : A.extract 0 (0 + ks.length) = A := by
      apply Array.ext'
      rw [extract_list, List.drop_zero, List.take_of_length_le (by simp; omega)]
    have eB : B.extract 0 (0 + ks.length) = B := by
      apply Array.ext'
      rw [extract_list, List.drop_zero, List.take_of_length_le (by simp; omega)]
    rw [eA, eB] at he
    have he := he 10000 (by decide)
    exact ⟨run_eqGuard_agg w .eql t x y A B hg, run_eqGuard_agg w .neq t x y A B hg, by rw [run_eql_struct, he]; rfl, by rw [run_neq_struct, he]; rfl⟩
  · cases h

theorem bits_ok {op : BinOp} {k : IntKind} {a b c : Int} (h : bitsOp op k a b = some c) (hs : op ≠ .shl ∧ op ≠ .shr) (t : TypeId) : (binOp op t (.int k a) (.int k b)).run P w = .ok (.int k c) w := by
  unfold bitsOp at h
  split at h <;> simp at h <;> subst h <;> simp [binOp, Op.intBits]

theorem vbin_key {op : BinOp} {t : TypeId} {x y : Operand} {a b v : V} (ha : VR g w true a (ρ x)) (hb : VR g w true b (ρ y)) (hq : vbin op (eqOk P t x y) a b = some v) :
    ∃ u, (eqGuard op t x y (ρ x) (ρ y)).run P w = .ok () w ∧ (binOp op t (ρ x) (ρ y)).run P w = .ok u w ∧ VR g w true v u := by
  unfold vbin at hq
  split at hq
  · simp only [Option.map_eq_some_iff] at hq
    obtain ⟨r, hr, rfl⟩ := hq
    obtain ⟨h1, _, h3, _⟩ := eql_ok ha hb hr
    exact ⟨_, h1, h3, .bool _ _⟩
  · simp only [Option.map_eq_some_iff] at hq
    obtain ⟨r, hr, rfl⟩ := hq
    obtain ⟨_, h1, _, h3⟩ := eql_ok ha hb hr
    exact ⟨_, h1, h3, .bool _ _⟩
  · split at hq
    · split at hq
      · cases hq
      · rename_i hneg
        simp at hq; subst hq
        rw [ha.inv_int, hb.inv_int]
        exact ⟨_, by simp [eqGuard], by simp [binOp, Op.shift, hneg], .int _ _ _⟩
    · cases hq
  · split at hq
    · split at hq
      · cases hq
      · rename_i hneg
        simp at hq; subst hq
        rw [ha.inv_int, hb.inv_int]
        exact ⟨_, by simp [eqGuard], by simp [binOp, Op.shift, hneg], .int _ _ _⟩
    · cases hq
  · rename_i n1 n2 n3 n4
    have hgd : (eqGuard op t x y (ρ x) (ρ y)).run P w = .ok () w := guard_other (fun h => n1 h) (fun h => n2 h) t x y _ _
    split at hq
    · rename_i k p l q
      split at hq
      · cases hq
      · rename_i hkl
        have hkl : k = l := by simpa using hkl
        subst hkl
        have ea := ha.inv_int
        have eb := hb.inv_int
        rw [ea, eb] at hgd ⊢
        split at hq
        · simp at hq; subst hq; exact ⟨_, hgd, by simp [binOp, Op.intArith], .int _ _ _⟩
        · simp at hq; subst hq; exact ⟨_, hgd, by simp [binOp, Op.intArith], .int _ _ _⟩
        · simp at hq; subst hq; exact ⟨_, hgd, by simp [binOp, Op.intArith], .int _ _ _⟩
        · split at hq
          · cases hq
          · rename_i hz; simp at hq; subst hq; exact ⟨_, hgd, by simp [binOp, Op.intDiv, hz], .int _ _ _⟩
        · split at hq
          · cases hq
          · rename_i hz; simp at hq; subst hq; exact ⟨_, hgd, by simp [binOp, Op.intDiv, hz], .int _ _ _⟩
        · simp at hq; subst hq; exact ⟨_, hgd, by simp [binOp, Op.intCmp], .bool _ _⟩
        · simp at hq; subst hq; exact ⟨_, hgd, by simp [binOp, Op.intCmp], .bool _ _⟩
        · simp at hq; subst hq; exact ⟨_, hgd, by simp [binOp, Op.intCmp], .bool _ _⟩
        · simp at hq; subst hq; exact ⟨_, hgd, by simp [binOp, Op.intCmp], .bool _ _⟩
        · simp only [Option.map_eq_some_iff] at hq
          obtain ⟨c, hc, rfl⟩ := hq
          exact ⟨_, hgd, bits_ok hc ⟨fun h => n3 h, fun h => n4 h⟩ t, .int _ _ _⟩
    · rename_i p q
      have ea := ha.inv_str
      have eb := hb.inv_str
      rw [ea, eb] at hgd ⊢
      split at hq
      · split at hq
        · rename_i hle
          simp at hq; subst hq
          refine ⟨_, hgd, ?_, .str _ _⟩
          have hsz : ¬ ((((⟨p.toArray⟩ : ByteArray).size + (⟨q.toArray⟩ : ByteArray).size : Nat) : Int) > IntKind.i64.max) := by
            have e1 : (⟨p.toArray⟩ : ByteArray).size = p.length := by simp [ByteArray.size]
            have e2 : (⟨q.toArray⟩ : ByteArray).size = q.length := by simp [ByteArray.size]
            rw [e1, e2]
            have : IntKind.i64.max = 9223372036854775807 := rfl
            rw [this]
            have : (2 : Nat) ^ 62 = 4611686018427387904 := by decide
            omega
          have hcat : (⟨p.toArray⟩ : ByteArray) ++ ⟨q.toArray⟩ = ⟨(p ++ q).toArray⟩ := by
            apply ByteArray.ext
            simp [ByteArray.data_append]
          simp only [binOp, Op.stringOp, hsz, if_false, Sem.run_pure, hcat]
        · cases hq
      · simp at hq; subst hq; exact ⟨_, hgd, by simp [binOp, Op.stringOp], .bool _ _⟩
      · simp at hq; subst hq; exact ⟨_, hgd, by simp [binOp, Op.stringOp], .bool _ _⟩
      · simp at hq; subst hq; exact ⟨_, hgd, by simp [binOp, Op.stringOp], .bool _ _⟩
      · simp at hq; subst hq; exact ⟨_, hgd, by simp [binOp, Op.stringOp], .bool _ _⟩
      · cases hq
    · cases hq

theorem vintU_len : ∀ n u, (vintU n u).length ≤ n + 1
  | 0, u => by simp [vintU]
  | n + 1, u => by
    unfold vintU
    split
    · simp
    · have := vintU_len n (u / 128)
      simp; omega
theorem chev_len : ∀ ch : List Ch, (chev ch).length ≤ chMost ch
  | [] => by simp [chev, chMost]
  | .lit s :: r => by have := chev_len r; simp [chev, chMost, chev1]; omega
  | .vi t :: r => by
    have := chev_len r
    have := vintU_len 9 (zig t.ev)
    simp [chev, chMost, chev1, vint]; omega
theorem chev_app : ∀ (ch : List Ch) (s : List UInt8), chev (chApp ch s) = chev ch ++ s
  | [], s => by simp [chApp, chev, chev1]
  | [.lit t], s => by simp [chApp, chev, chev1]
  | [.vi t], s => by simp [chApp, chev, chev1]
  | .lit t :: d :: r, s => by have := chev_app (d :: r) s; simp only [chApp]; simp only [chev, chev1, List.append_assoc] at this ⊢; rw [this]
  | .vi t :: d :: r, s => by have := chev_app (d :: r) s; simp only [chApp]; simp only [chev, chev1, List.append_assoc] at this ⊢; rw [this]
theorem chEnd_ok : ∀ ch : List Ch, ∃ p, chev ch = p ++ chEnd ch
  | [] => ⟨[], rfl⟩
  | [.lit t] => ⟨[], by simp [chev, chev1, chEnd]⟩
  | [.vi t] => ⟨vint t.ev, by simp [chev, chev1, chEnd]⟩
  | c :: d :: r => by
    obtain ⟨p, h⟩ := chEnd_ok (d :: r)
    refine ⟨chev1 c ++ p, ?_⟩
    have e : chEnd (c :: d :: r) = chEnd (d :: r) := by cases c <;> rfl
    rw [e, List.append_assoc, ← h]
    rfl
theorem end_drop {α : Type} (p s : List α) (n : Nat) (h : n ≤ s.length) : s.drop (s.length - n) = (p ++ s).drop ((p ++ s).length - n) := by
  rw [List.length_append, show p.length + s.length - n = p.length + (s.length - n) by omega, ← List.drop_drop, List.drop_left]
theorem chNe_ok {a b : List Ch} (h : chNe a b = true) : chev a ≠ chev b := by
  intro e
  obtain ⟨p, hp⟩ := chEnd_ok a
  obtain ⟨q, hq⟩ := chEnd_ok b
  unfold chNe at h
  simp only [bne_iff_ne, ne_eq] at h
  apply h
  rw [end_drop p (chEnd a) _ (Nat.min_le_left _ _), end_drop q (chEnd b) _ (Nat.min_le_right _ _), ← hp, ← hq, e]
theorem chSame_ok {a b : List Ch} {r : Bool} (h : chSame a b = some r) : (chev a == chev b) = r := by
  unfold chSame at h
  split at h
  · rename_i e; cases h; subst e; simp
  · split at h
    · rename_i e; cases h; simpa using chNe_ok e
    · cases h
theorem tmPair_ok {x y : V} {k : IntKind} {a b : Tm} (h : tmPair x y = some (k, a, b)) : conc0 x = .int k a.ev ∧ conc0 y = .int k b.ev ∧ concA x = .int k a.ev ∧ concA y = .int k b.ev := by
  unfold tmPair at h
  split at h
  · split at h
    · rename_i e; cases h; subst e; exact ⟨rfl, rfl, rfl, rfl⟩
    · cases h
  · split at h
    · rename_i e; cases h; subst e; exact ⟨rfl, rfl, rfl, rfl⟩
    · cases h
  · split at h
    · rename_i e; cases h; subst e; exact ⟨rfl, rfl, rfl, rfl⟩
    · cases h
  · cases h
theorem chPair_ok {x y : V} {a b : List Ch} (h : chPair x y = some (a, b)) : conc0 x = .str (chev a) ∧ conc0 y = .str (chev b) ∧ concA x = .str (chev a) ∧ concA y = .str (chev b) := by
  unfold chPair at h
  split at h <;> cases h
  · exact ⟨rfl, rfl, rfl, rfl⟩
  · simp [conc0, concA, chev, chev1]
  · simp [conc0, concA, chev, chev1]
theorem dec_eql {a b : Tm} {r : Bool} (h : Sy.dec .eql a b = some r) : (a.ev == b.ev) = r := by
  have := Sy.ok _ _ _ _ h
  simp only [cmpI, Option.some.injEq] at this
  exact this
theorem sameC'_ok {c : CK} {x y : V} {r : Bool} (h : sameC' c x y = some r) : sameC c (conc0 x) (conc0 y) = some r := by
  unfold sameC' at h
  split at h
  · rename_i k a b hp
    obtain ⟨h1, h2, _⟩ := tmPair_ok hp
    split at h
    · rename_i hc; subst hc
      rw [h1, h2]
      simp only [sameC, if_true, dec_eql h]
    · cases h
  · split at h
    · rename_i a b hp
      obtain ⟨h1, h2, _⟩ := chPair_ok hp
      split at h
      · rename_i hc; subst hc
        rw [h1, h2]
        simp only [sameC, chSame_ok h]
      · cases h
    · unfold sameC at h
      split at h
      · exact h
      · exact h
      · exact h
      · cases h
theorem kindC_ok {c : CK} {x y : V} (h : kindC c x y = true) : ∃ r, sameC c (conc0 x) (conc0 y) = some r := by
  unfold kindC at h
  split at h
  · rename_i e1 e2; rw [e1, e2]; exact ⟨_, rfl⟩
  · rename_i e1 e2; rw [e1, e2]; simp only [beq_iff_eq] at h; subst h; exact ⟨_, by simp only [sameC, if_true]; rfl⟩
  · rename_i e1 e2; rw [e1, e2]; exact ⟨_, rfl⟩
  · cases h
theorem kindL_ok : ∀ {ks : List CK} {x y : List V}, kindL ks x y = true → ∃ r, sameL ks (x.map conc0) (y.map conc0) = some r
  | [], [], [], _ => ⟨true, rfl⟩
  | k :: ks, a :: x, b :: y, h => by
    simp only [kindL, Bool.and_eq_true] at h
    obtain ⟨r, h1⟩ := kindC_ok h.1
    obtain ⟨q, h2⟩ := kindL_ok h.2
    exact ⟨r && q, by simp [sameL, h1, h2]⟩
  | [], [], _ :: _, h => by simp [kindL] at h
  | [], _ :: _, _, h => by simp [kindL] at h
  | _ :: _, [], _, h => by simp [kindL] at h
  | _ :: _, _ :: _, [], h => by simp [kindL] at h
theorem sameL'_ok : ∀ {ks : List CK} {x y : List V} {r : Bool}, sameL' ks x y = some r → sameL ks (x.map conc0) (y.map conc0) = some r
  | [], [], [], r, h => h
  | k :: ks, a :: x, b :: y, r, h => by
    simp only [sameL'] at h
    split at h
    · rename_i h1
      simp [sameL, sameC'_ok h1, sameL'_ok h]
    · rename_i h1
      split at h
      · rename_i hk
        cases h
        obtain ⟨q, h2⟩ := kindL_ok hk
        simp [sameL, sameC'_ok h1, h2]
      · cases h
    · split at h
      · rename_i h2
        split at h
        · rename_i hk
          cases h
          obtain ⟨q, h1⟩ := kindC_ok hk
          simp [sameL, h1, sameL'_ok h2]
        · cases h
      · cases h
  | [], [], _ :: _, r, h => by simp [sameL'] at h
  | [], _ :: _, _, r, h => by simp [sameL'] at h
  | _ :: _, [], _, r, h => by simp [sameL'] at h
  | _ :: _, _ :: _, [], r, h => by simp [sameL'] at h
theorem sameX_ok {kq : EqK} {x y : V} {r : Bool} (h : sameX kq x y = some r) : sameV kq (concA x) (concA y) = some r := by
  unfold sameX at h
  split at h
  · rename_i k a b hp
    obtain ⟨_, _, h1, h2⟩ := tmPair_ok hp
    rw [h1, h2]
    simp only [sameV, if_true, dec_eql h]
  · rename_i a b _ hp
    obtain ⟨_, _, h1, h2⟩ := chPair_ok hp
    rw [h1, h2]
    simp only [sameV, chSame_ok h]
  · exact sameL'_ok h
  · cases h
theorem VR.conc0 {r : Bool} {v : V} {u : Value} (h : VR g w r v u) : VR g w r (Go.Pv.conc0 v) u := by
  cases v <;> try exact h
  · rw [h.inv_tm]; exact .int _ _ _
  · rw [h.inv_ct]; exact .str _ _
theorem VR.concA {r : Bool} {v : V} {u : Value} (h : VR g w r v u) : VR g w r (Go.Pv.concA v) u := by
  cases v with
  | agg cs =>
    obtain ⟨U, rfl, h1, h2, h3⟩ := h.inv_agg
    refine .agg _ _ _ (by simpa using h1) h2 ?_
    intro j x u hx hu
    rw [List.getElem?_map] at hx
    cases hq : cs[j]? with
    | none => rw [hq] at hx; cases hx
    | some c => rw [hq] at hx; cases hx; exact (h3 j c u hq hu).conc0
  | _ => exact h.conc0
theorem cmp_vbin {op : BinOp} {kq : EqK} {k : IntKind} {a b : Int} {r : Bool} (hop : op = .lss ∨ op = .leq ∨ op = .gtr ∨ op = .geq) (h : cmpI op a b = some r) : vbin op kq (.int k a) (.int k b) = some (.bool r) := by
  rcases hop with rfl | rfl | rfl | rfl <;> simp [cmpI] at h <;> subst h <;> simp [vbin]
theorem vext_ok {op : BinOp} {kq : EqK} {x y v : V} (h : vext op kq x y = some v) : ∃ v0, vbin op kq (concA x) (concA y) = some v0 ∧ ∀ u, VR g w true v0 u → VR g w true v u := by
  unfold vext at h
  split at h
  · simp only [Option.map_eq_some_iff] at h
    obtain ⟨r, h1, rfl⟩ := h
    exact ⟨.bool r, by simp [vbin, sameX_ok h1], fun u hu => hu⟩
  · simp only [Option.map_eq_some_iff] at h
    obtain ⟨r, h1, rfl⟩ := h
    exact ⟨.bool (!r), by simp [vbin, sameX_ok h1], fun u hu => hu⟩
  · split at h
    · rename_i k a b hp
      cases h
      obtain ⟨_, _, h1, h2⟩ := tmPair_ok hp
      rw [h1, h2]
      refine ⟨.int k (tmOp .add k a.ev b.ev), by simp [vbin, tmOp], fun u hu => ?_⟩
      rw [hu.inv_int]
      exact .tm _ _ _
    · unfold addX at h
      split at h
      · rename_i a t _
        split at h
        · rename_i hle
          cases h
          refine ⟨.str (chev a ++ t), ?_, fun u hu => ?_⟩
          · have := chev_len a
            have hle' : (chev a).length + t.length ≤ 2 ^ 62 := by omega
            simp only [concA, Go.Pv.conc0, vbin, hle', if_true]
          · rw [hu.inv_str, ← chev_app]
            exact .ct _ _
        · cases h
      · cases h
  · split at h
    · rename_i k a b hp
      cases h
      obtain ⟨_, _, h1, h2⟩ := tmPair_ok hp
      rw [h1, h2]
      refine ⟨.int k (tmOp .sub k a.ev b.ev), by simp [vbin, tmOp], fun u hu => ?_⟩
      rw [hu.inv_int]
      exact .tm _ _ _
    · cases h
  · split at h
    · rename_i k a b hp
      cases h
      obtain ⟨_, _, h1, h2⟩ := tmPair_ok hp
      rw [h1, h2]
      refine ⟨.int k (tmOp .mul k a.ev b.ev), by simp [vbin, tmOp], fun u hu => ?_⟩
      rw [hu.inv_int]
      exact .tm _ _ _
    · cases h
  all_goals first
    | (split at h
       · rename_i k a b hp
         simp only [Option.map_eq_some_iff] at h
         obtain ⟨r, h1, rfl⟩ := h
         obtain ⟨_, _, e1, e2⟩ := tmPair_ok hp
         rw [e1, e2]
         exact ⟨.bool r, cmp_vbin (by simp) (Sy.ok _ _ _ _ h1), fun u hu => hu⟩
       · cases h)
    | cases h
theorem xbin_key {op : BinOp} {t : TypeId} {x y : Operand} {a b v : V} (ha : VR g w true a (ρ x)) (hb : VR g w true b (ρ y)) (hq : xbin op (eqOk P t x y) a b = some v) :
    ∃ u, (eqGuard op t x y (ρ x) (ρ y)).run P w = .ok () w ∧ (binOp op t (ρ x) (ρ y)).run P w = .ok u w ∧ VR g w true v u := by
  unfold xbin at hq
  split at hq
  · rename_i v' hv
    cases hq
    exact vbin_key ha hb hv
  · obtain ⟨v0, h1, h2⟩ := vext_ok (g := g) (w := w) hq
    obtain ⟨u, k1, k2, k3⟩ := vbin_key ha.concA hb.concA h1
    exact ⟨u, k1, k2, h2 u k3⟩

theorem op_bin (R : Rel g O0 w0 w) (E : Evs g w e ρ) {op : BinOp} {t ty : TypeId} {x y : Operand} {x' y' : Od} (ho : o.op = .binOp op t x y ty) (hx : odOf x = some x') (hy : odOf y = some y')
    (hv : vop call g.h N e (.bin op (eqOk P t x y) x' y') = some (.ok rc)) : OpOk P ρ o g O0 w0 w rc := by
  have ha := od_ok E hx
  have hb := od_ok E hy
  simp only [vop, v_mov, v_pick, v_new, v_box, v_build, v_buildS, v_load, v_store, v_nilc, v_bin, v_una, v_conv, v_mkI, v_mkF, v_mkM, v_mkS, v_slc, v_fad, v_fld, v_iad, v_idx, v_look, v_mset, v_rng, v_nxt, v_tas, v_ext, v_call, v_calld, v_len, v_app, v_copy, v_clearM, v_clearS, v_del, v_mx, v_pan] at hv
  split at hv
  · rename_i v hq
    simp [ok1] at hv
    subst hv
    generalize x'.ev e = a at *
    generalize y'.ev e = b at *
    have key := xbin_key ha hb hq
    obtain ⟨u, k1, k2, k3⟩ := key
    refine OpOk.pure R [] (u := u) ?_ k3
    simp [execOp, ho, k1, k2]
  · cases hv
end
end Go.Pv
namespace Go.Pv
variable [Sy]
section
variable {P : Program} {ρ : Operand → Value} {o : Oper} {g : G} {O0 : Nat → Prop} {w0 w : World} {e : Env} {N : Nat} {rc : Rec} {call : Callf}

theorem ods_ok (E : Evs g w e ρ) : ∀ {xs : List Operand} {ods : List Od}, odsOf xs = some ods → ods.length = xs.length ∧ ∀ (j : Nat) (x : V) (u : Value), (ods.map (·.ev e))[j]? = some x → (xs.map ρ)[j]? = some u → VR g w true x u
  | [], ods, h => by
    simp [odsOf] at h
    subst h
    exact ⟨rfl, fun j x u h => by simp at h⟩
  | x :: xs, ods, h => by
    unfold odsOf at h
    split at h
    · rename_i a b ha hb
      simp at h
      subst h
      obtain ⟨h1, h2⟩ := ods_ok E hb
      refine ⟨by simp [h1], ?_⟩
      intro j y u hy hu
      cases j with
      | zero => simp at hy hu; subst hy; subst hu; exact od_ok E ha
      | succ j => simp only [List.map_cons, List.getElem?_cons_succ] at hy hu; exact h2 j y u hy hu
    · cases h

theorem op_mkF (R : Rel g O0 w0 w) (E : Evs g w e ρ) {f : FuncId} {a b : Array Operand} {a' b' : List Od} (ho : o.op = .makeFunc (.func f) a b) (ha : odsOf a.toList = some a') (hb : odsOf b.toList = some b') :
    OpOk P ρ o g O0 w0 w ⟨.fn f (a'.map (·.ev e)) (b'.map (·.ev e)), [], []⟩ := by
  obtain ⟨l1, r1⟩ := ods_ok E ha
  obtain ⟨l2, r2⟩ := ods_ok E hb
  refine OpOk.pure R [] (u := .func (.func f) (a.map ρ) (b.map ρ)) ?_ ?_
  · simp [execOp, ho, Instr.makeFunc]
  · refine .fn _ f _ _ _ _ (by simpa using l1.symm) (by simpa using l2.symm) ?_ ?_
    · intro j x u hx hu
      exact r1 j x u hx (by simpa using hu)
    · intro j x u hx hu
      exact r2 j x u hx (by simpa using hu)

theorem ip_drop {cs : List V} {u : Value} (h : VR g w true (.ip cs) u) (n : Nat) : ∃ a, u = .pointer (some a) ∧ VR g w true (.ip (cs.drop n)) (.pointer (some (a.add n))) := by
  obtain ⟨a, us, rfl, hl, h1, hc, hr⟩ := h.inv_ip
  have C : Cells g w false cs us := ⟨hl, h1, hr⟩
  have C' := C.drop n
  refine ⟨a, rfl, .ip _ _ (us.drop n) _ C'.len C'.one ?_ C'.rel⟩
  intro j u hu
  rw [List.getElem?_drop] at hu
  have := hc _ u hu
  rw [add_block]
  exact ⟨this.1, add_add' a n j this.2⟩

theorem op_fad (R : Rel g O0 w0 w) (E : Evs g w e ρ) {s : TypeId} {x : Operand} {x' : Od} {f n : Nat} {fs : Array Field} {fd : Field} (ho : o.op = .fieldAddr s x f)
    (hs : P.underlying s = some (.struct fs)) (hf : fs[f]? = some fd) (hn : szOf P fd.type = some n) (hn0 : 0 < n) (hx : odOf x = some x')
    (hv : vop call g.h N e (.fad fd.offset x') = some (.ok rc)) : OpOk P ρ o g O0 w0 w rc := by
  have h1 := od_ok E hx
  have hp : ∀ a, (fieldPlace a fd).run P w = .ok (a.add fd.offset) w := fun a => by
    have : n ≠ 0 := by omega
    simp [fieldPlace, szOf_run hn, this]
  simp only [vop, v_mov, v_pick, v_new, v_box, v_build, v_buildS, v_load, v_store, v_nilc, v_bin, v_una, v_conv, v_mkI, v_mkF, v_mkM, v_mkS, v_slc, v_fad, v_fld, v_iad, v_idx, v_look, v_mset, v_rng, v_nxt, v_tas, v_ext, v_call, v_calld, v_len, v_app, v_copy, v_clearM, v_clearS, v_del, v_mx, v_pan] at hv
  split at hv
  · rename_i k off hq
    simp [ok1] at hv
    subst hv
    rw [hq] at h1
    obtain ⟨hD, hu⟩ := h1.inv_ptr
    refine OpOk.pure R [] (u := .pointer (some ⟨g.B k, off + fd.offset, none⟩)) ?_ (.ptr _ _ hD)
    simp [execOp, ho, Instr.fieldAt, run_underlying hs, hf, hu, Instr.sureAddr, hp, Addr.add_lit]
  · rename_i cs hq
    split at hv
    · simp [ok1] at hv
      subst hv
      rw [hq] at h1
      obtain ⟨a, hu, hr⟩ := ip_drop h1 fd.offset
      refine OpOk.pure R [] (u := .pointer (some (a.add fd.offset))) ?_ hr
      simp [execOp, ho, Instr.fieldAt, run_underlying hs, hf, hu, Instr.sureAddr, hp]
    · cases hv
  · cases hv

theorem flatten_get {xs : List (List V)} {k i : Nat} {cs : List V} (he : ∀ x ∈ xs, x.length = k) (hi : xs[i]? = some cs) : ∀ j, j < k → xs.flatten[i * k + j]? = cs[j]? := by
  induction xs generalizing i with
  | nil => simp at hi
  | cons x xs ih =>
    intro j hj
    have hx : x.length = k := he x (by simp)
    cases i with
    | zero =>
      simp at hi
      subst hi
      simp only [Nat.zero_mul, Nat.zero_add, List.flatten_cons]
      rw [List.getElem?_append_left (by omega)]
    | succ i =>
      simp at hi
      simp only [List.flatten_cons]
      rw [List.getElem?_append_right (by rw [hx, Nat.add_mul]; omega), hx, ← ih (fun y hy => he y (by simp [hy])) hi j hj]
      congr 1
      rw [Nat.add_mul]
      omega
theorem flatten_len {xs : List (List V)} {k : Nat} (he : ∀ x ∈ xs, x.length = k) : xs.flatten.length = xs.length * k := by
  induction xs with
  | nil => simp
  | cons x xs ih =>
    simp only [List.flatten_cons, List.length_append, List.length_cons]
    rw [ih fun y hy => he y (by simp [hy]), he x (by simp), Nat.add_mul]
    omega

/-- An element of what is only read. -/
theorem is_elem {xs : List (List V)} {clip : Bool} {u : Value} {i k : Nat} {cs : List V} (h : VR g w true (.is xs clip) u) (hi : xs[i]? = some cs) (hk : cs.length = k) (h0 : 0 < k) :
    ∃ ad c, u = .slice (some ad) xs.length c ∧ VR g w true (.ip cs) (.pointer (some (ad.add (i * k)))) := by
  obtain ⟨us, esz, a, c, rfl, he, hl, _, _, h1, hc, hr⟩ := h.inv_is
  have hmem : cs ∈ xs := List.mem_of_getElem? hi
  have hek : esz = k := by rw [← he cs hmem, hk]
  subst hek
  have hlt : i < xs.length := (List.getElem?_eq_some_iff.1 hi).1
  have hfl := flatten_len he
  have hb : i * esz + esz ≤ xs.length * esz := by rw [← Nat.succ_mul]; exact Nat.mul_le_mul_right _ hlt
  have hu0 : us[i * esz]? = some us[i * esz] := List.getElem?_eq_getElem (by omega)
  obtain ⟨ad, rfl, _, _⟩ := hc _ _ hu0
  refine ⟨ad, c, rfl, .ip _ cs ((us.drop (i * esz)).take esz) _ (by simp; omega) (fun u hu => h1 u (List.mem_of_mem_drop (List.mem_of_mem_take hu))) ?_ ?_⟩
  · intro j u hu
    rw [List.getElem?_take] at hu
    split at hu
    · rw [List.getElem?_drop] at hu
      obtain ⟨ad', e', q1, q2⟩ := hc _ _ hu
      cases e'
      rw [add_block]
      exact ⟨q1, add_add' ad _ j q2⟩
    · cases hu
  · intro j c u hc' hu
    rw [List.getElem?_take] at hu
    split at hu
    · rename_i hj
      rw [List.getElem?_drop] at hu
      exact hr _ c u (by rw [flatten_get he hi j hj]; exact hc') hu
    · cases hu

theorem ip_tm {r : Bool} {k : IntKind} {t : Tm} {u : Value} (h : VR g w r (.ip [.int k t.ev]) u) : VR g w r (.ip [.tm k t]) u := by
  obtain ⟨a', us, e1, e2, e3, e4, e5⟩ := h.inv_ip
  rw [e1]
  refine .ip _ _ us a' e2 e3 e4 ?_
  intro j0 c0 u0 hc0 hu0
  cases j0 with
  | zero =>
    simp at hc0
    subst hc0
    rw [(e5 0 _ u0 rfl hu0).inv_int]
    exact .tm _ _ _
  | succ j0 => simp at hc0
theorem op_iad_s (R : Rel g O0 w0 w) (E : Evs g w e ρ) {t el : TypeId} {x i : Operand} {x' i' : Od} {k : Nat} (ho : o.op = .indexAddr t x i)
    (hs : P.underlying t = some (.slice el)) (hk : szOf P el = some k) (hk0 : 0 < k) (hx : odOf x = some x') (hi : odOf i = some i')
    (hv : vop call g.h N e (.iad k none x' i') = some (.ok rc)) : OpOk P ρ o g O0 w0 w rc := by
  have h1 := od_ok E hx
  have h2 := od_ok E hi
  simp only [vop, v_mov, v_pick, v_new, v_box, v_build, v_buildS, v_load, v_store, v_nilc, v_bin, v_una, v_conv, v_mkI, v_mkF, v_mkM, v_mkS, v_slc, v_fad, v_fld, v_iad, v_idx, v_look, v_mset, v_rng, v_nxt, v_tas, v_ext, v_call, v_calld, v_len, v_app, v_copy, v_clearM, v_clearS, v_del, v_mx, v_pan] at hv
  split at hv
  · rename_i ik n hq
    rw [hq] at h2
    have h2 := h2.inv_int
    split at hv
    · cases hv
    · rename_i hneg
      split at hv
      · rename_i xs clip hxq
        split at hv
        · rename_i cs hcs
          split at hv
          · rename_i hlen
            simp [ok1] at hv
            subst hv
            rw [hxq] at h1
            obtain ⟨ad, c, hu, hr⟩ := is_elem h1 hcs hlen hk0
            have hlt : n.toNat < xs.length := (List.getElem?_eq_some_iff.1 hcs).1
            refine OpOk.pure R [] (u := _) ?_ hr
            have c1 : 0 ≤ n := by omega
            have c2 : n < (xs.length : Int) := by omega
            simp [execOp, ho, Instr.indexAt, h2, asIntOf, run_underlying hs, hu, c1, c2, szOf_run hk]
          · cases hv
        · cases hv
      · rename_i q off len cap hxq
        split at hv
        · rename_i hlt
          simp [ok1] at hv
          subst hv
          rw [hxq] at h1
          obtain ⟨hD, c, hu, _⟩ := h1.inv_sl
          refine OpOk.pure R [] (u := .pointer (some ⟨g.B q, off + n.toNat * k, none⟩)) ?_ (.ptr _ _ hD)
          have c1 : 0 ≤ n := by omega
          have c2 : n < (len : Int) := by omega
          simp [execOp, ho, Instr.indexAt, h2, asIntOf, run_underlying hs, hu, c1, c2, szOf_run hk, Addr.add_lit]
        · cases hv
      · rename_i xs kk hxq
        split at hv
        · rename_i cs hcs
          split at hv
          · rename_i hlen
            simp [ok1] at hv
            subst hv
            rw [hxq] at h1
            obtain ⟨rest, h1, _⟩ := h1.inv_it
            have hlt0 : n.toNat < xs.length := (List.getElem?_eq_some_iff.1 hcs).1
            have hcs' : (xs ++ rest)[n.toNat]? = some cs := by rw [List.getElem?_append_left hlt0]; exact hcs
            obtain ⟨ad, c, hu, hr⟩ := is_elem h1 hcs' hlen hk0
            have hlt : n.toNat < (xs ++ rest).length := (List.getElem?_eq_some_iff.1 hcs').1
            refine OpOk.pure R [] (u := _) ?_ hr
            have c1 : 0 ≤ n := by omega
            have c2 : n < ((xs ++ rest).length : Int) := by omega
            simp only [List.length_append] at hu c2
            simp [execOp, ho, Instr.indexAt, h2, asIntOf, run_underlying hs, hu, c1, c2, szOf_run hk]
            omega
          · cases hv
        · cases hv
      · cases hv
  · rename_i ik jj hq
    rw [hq] at h2
    have h2 := h2.inv_tm
    split at hv
    · rename_i kk id nn ix el _ hxq
      split at hv
      · rename_i hc
        obtain ⟨rfl, rfl, hd1, hd2⟩ := hc
        simp [ok1] at hv
        subst hv
        rw [hxq] at h1
        obtain ⟨h1, hn, he⟩ := h1.inv_iv
        generalize Sy.lists id = zs at h1 hn he
        have b1 : Sy.val jj < Sy.val nn := of_decide_eq_true (Option.some.inj (Sy.ok _ _ _ _ hd1))
        have b2 : 0 ≤ Sy.val jj := of_decide_eq_true (Option.some.inj (Sy.ok _ _ _ _ hd2))
        obtain ⟨m, hm⟩ : ∃ m : Nat, Sy.val jj = m := ⟨(Sy.val jj).toNat, by omega⟩
        have hml : m < zs.length := by omega
        have hcs : (zs.map fun z => [V.int kk z])[m]? = some [.int kk (Sy.val el)] := by rw [List.getElem?_map, he m hm hml]; rfl
        obtain ⟨ad, c, hu, hr⟩ := is_elem h1 hcs rfl hk0
        have hev : Tm.ev (.sym jj) = (m : Int) := hm
        have hr' := ip_tm (t := .sym el) hr
        refine OpOk.pure R [] (u := _) ?_ hr'
        simp only [List.length_map] at hu
        have c2 : (m : Int) < (zs.length : Int) := by omega
        simp [execOp, ho, Instr.indexAt, h2, hev, asIntOf, run_underlying hs, hu, c2, szOf_run hk]
        omega
      · cases hv
    · cases hv
  · cases hv

theorem op_iad_a (R : Rel g O0 w0 w) (E : Evs g w e ρ) {t el : TypeId} {x i : Operand} {x' i' : Od} {k len : Nat} (ho : o.op = .indexAddr t x i)
    (hs : P.underlying t = some (.array len el)) (hk : szOf P el = some k) (h2n : 2 ≤ len) (hx : odOf x = some x') (hi : odOf i = some i')
    (hv : vop call g.h N e (.iad k (some len) x' i') = some (.ok rc)) : OpOk P ρ o g O0 w0 w rc := by
  have h1 := od_ok E hx
  have h2 := od_ok E hi
  simp only [vop, v_mov, v_pick, v_new, v_box, v_build, v_buildS, v_load, v_store, v_nilc, v_bin, v_una, v_conv, v_mkI, v_mkF, v_mkM, v_mkS, v_slc, v_fad, v_fld, v_iad, v_idx, v_look, v_mset, v_rng, v_nxt, v_tas, v_ext, v_call, v_calld, v_len, v_app, v_copy, v_clearM, v_clearS, v_del, v_mx, v_pan] at hv
  split at hv
  · rename_i ik n hq
    rw [hq] at h2
    have h2 := h2.inv_int
    split at hv
    · cases hv
    · rename_i hneg
      have c1 : 0 ≤ n := by omega
      have ht : ¬ len ≤ 1 := by omega
      split at hv
      · rename_i q off hxq
        split at hv
        · rename_i hlt
          simp [ok1] at hv
          subst hv
          rw [hxq] at h1
          obtain ⟨hD, hu⟩ := h1.inv_ptr
          refine OpOk.pure R [] (u := .pointer (some ⟨g.B q, off + n.toNat * k, none⟩)) ?_ (.ptr _ _ hD)
          have c2 : n < (len : Int) := by omega
          simp [execOp, ho, Instr.indexAt, h2, asIntOf, run_underlying hs, hu, c1, c2, szOf_run hk, Addr.add_lit, Instr.sureAddr, ht]
        · cases hv
      · rename_i cs hxq
        split at hv
        · rename_i hlt
          simp [ok1] at hv
          subst hv
          rw [hxq] at h1
          obtain ⟨a, hu, hr⟩ := ip_drop h1 (n.toNat * k)
          refine OpOk.pure R [] (u := _) ?_ hr
          have c2 : n < (len : Int) := by omega
          simp [execOp, ho, Instr.indexAt, h2, asIntOf, run_underlying hs, hu, c1, c2, szOf_run hk, Instr.sureAddr, ht]
        · cases hv
      · cases hv
  · cases hv
  · cases hv

theorem op_idx_s (R : Rel g O0 w0 w) (E : Evs g w e ρ) {t : TypeId} {x i : Operand} {x' i' : Od} (ho : o.op = .index t x i)
    (hs : P.underlying t = some .string) (hx : odOf x = some x') (hi : odOf i = some i')
    (hv : vop call g.h N e (.idx none x' i') = some (.ok rc)) : OpOk P ρ o g O0 w0 w rc := by
  have h1 := od_ok E hx
  have h2 := od_ok E hi
  simp only [vop, v_mov, v_pick, v_new, v_box, v_build, v_buildS, v_load, v_store, v_nilc, v_bin, v_una, v_conv, v_mkI, v_mkF, v_mkM, v_mkS, v_slc, v_fad, v_fld, v_iad, v_idx, v_look, v_mset, v_rng, v_nxt, v_tas, v_ext, v_call, v_calld, v_len, v_app, v_copy, v_clearM, v_clearS, v_del, v_mx, v_pan] at hv
  split at hv
  · rename_i ik n hq
    rw [hq] at h2
    have h2 := h2.inv_int
    split at hv
    · cases hv
    · rename_i hneg
      have c1 : 0 ≤ n := by omega
      split at hv
      · rename_i s hxq
        split at hv
        · rename_i b hb
          simp [ok1] at hv
          subst hv
          rw [hxq] at h1
          have hu := h1.inv_str
          refine OpOk.pure R [] ?_ (.int _ _ _)
          have hb' : (⟨s.toArray⟩ : ByteArray)[n.toNat]? = some b := by
            have hlt : n.toNat < s.length := (List.getElem?_eq_some_iff.1 hb).1
            have hv := (List.getElem?_eq_some_iff.1 hb).2
            have : n.toNat < (⟨s.toArray⟩ : ByteArray).size := by simpa [ByteArray.size] using hlt
            rw [getElem?_pos (⟨s.toArray⟩ : ByteArray) n.toNat this]
            congr 1
          simp [execOp, ho, Instr.index, h2, asIntOf, run_underlying hs, hu, c1, hb']
        · cases hv
      · cases hv
  · cases hv
end
end Go.Pv
namespace Go.Pv
variable [Sy]
section
variable {P : Program} {ρ : Operand → Value} {o : Oper} {g : G} {O0 : Nat → Prop} {w0 w : World} {e : Env} {N : Nat} {rc : Rec} {call : Callf}

/-- A new object under a new number. -/
def G.new (g : G) (nk b c : Nat) (vo : VO) : G :=
  { D := fun k => g.D k ∨ k = nk, X := g.X, B := fun k => if k = nk then b else g.B k, C := fun k => if k = nk then c else g.C k, h := fun k => if k = nk then vo else g.h k }

theorem new_ok (R : Rel g O0 w0 w) {w' : World} {nk c : Nat} {vo : VO} (hnk : ¬ g.D nk) (hh : ∃ ob, w'.heap = w.heap.push ob) (h1 : w'.os = w.os) (h2 : w'.tape = w.tape) (h3 : w'.output = w.output)
    (hob : Step g w (g.new nk w.heap.size c vo) w' → OR (g.new nk w.heap.size c vo) w' nk vo) :
    let g' := g.new nk w.heap.size c vo
    Rel g' O0 w0 w' ∧ Step g w g' w' ∧ Eff g [(nk, vo)] g' := by
  obtain ⟨ob, hh⟩ := hh
  intro g'
  have hB : ∀ k, g.D k → g'.D k ∧ g'.B k = g.B k ∧ g'.C k = g.C k := fun k hk => by
    have : k ≠ nk := fun e => hnk (e ▸ hk)
    exact ⟨.inl hk, by simp [g', G.new, this], by simp [g', G.new, this]⟩
  have U : Up g w g' w' (· = nk) := by
    refine ⟨rfl, by rw [hh]; simp, h1, h2, h3, hB, fun k hk => by simp [g', G.new, hk], fun b hb _ => by rw [hh, Array.getElem?_push_lt hb, Array.getElem?_eq_getElem hb], ?_, ?_⟩
    · rintro k rfl _
      exact ⟨.inr rfl, .inr (by simp [g', G.new])⟩
    · rintro k l rfl rfl _ _ _
      rfl
  have S := R.step U
  refine ⟨R.up U ?_, S, ⟨rfl, fun k => by simp [g', G.new], fun k hk => (hB k hk).2, fun k => ?_⟩⟩
  · rintro k rfl
    have := hob S
    simpa [g', G.new] using this
  · simp only [g', G.new, lookU]
    by_cases hk : k = nk
    · subst hk; simp
    · have : ¬ nk = k := fun e => hk e.symm
      simp [hk, this]

theorem new_cells (R : Rel g O0 w0 w) {w' : World} {nk c esz : Nat} {cs : List V} {arr : Array Value} {t : TypeId} (hnk : ¬ g.D nk) (hh : w'.heap = w.heap.push (.cells arr t)) (h1 : w'.os = w.os) (h2 : w'.tape = w.tape) (h3 : w'.output = w.output)
    (hl : cs.length ≤ arr.size) (hc : c * esz ≤ arr.size) (C : Cells g w true cs (arr.toList.take cs.length)) :
    let g' := g.new nk w.heap.size c (.cells cs esz)
    Rel g' O0 w0 w' ∧ Step g w g' w' ∧ Eff g [(nk, .cells cs esz)] g' := by
  refine new_ok R hnk ⟨_, hh⟩ h1 h2 h3 fun S => ?_
  have hB : ∀ k, g.D k → (g.new nk w.heap.size c (.cells cs esz)).D k ∧ (g.new nk w.heap.size c (.cells cs esz)).B k = g.B k ∧ (g.new nk w.heap.size c (.cells cs esz)).C k = g.C k := fun k hk => by
    have : k ≠ nk := fun e => hnk (e ▸ hk)
    exact ⟨.inl hk, by simp [G.new, this], by simp [G.new, this]⟩
  have C' := C.move S hB
  refine ⟨arr, t, ?_, hl, by simpa [G.new] using hc, ?_⟩
  · rw [hh]; simp [G.new]
  · intro j v u hv hu
    have hj : j < cs.length := (List.getElem?_eq_some_iff.1 hv).1
    have hu' : (arr.toList.take cs.length)[j]? = some u := by rw [List.getElem?_take, if_pos hj, Array.getElem?_toList]; exact hu
    exact ⟨C'.one u (List.mem_of_getElem? hu'), C'.rel j v u hv hu'⟩

theorem alloc_heap (w : World) (ob : Obj) : (w.alloc ob).heap = w.heap.push ob := rfl

theorem zeroOf_run {t : TypeId} {zs : List V} (h : zeroOf P t = some zs) (w : World) : ∃ zv, (P.info? t).bind (·.zero) = some zv ∧ (zeroValue t).run P w = .ok zv w ∧ ∀ (g : G) (w : World) (r : Bool), Cells g w r zs zv.cells.toList := by
  unfold zeroOf at h
  split at h
  · rename_i zv hz
    refine ⟨zv, hz, ?_, fun g w r => ?_⟩
    · cases hi : P.info? t with
      | none => rw [hi] at hz; cases hz
      | some i => rw [hi] at hz; simp at hz; simp [zeroValue, typeInfo, hi, hz]
    · obtain ⟨h1, h2⟩ := ofVals_ok (g := g) (w := w) (r := r) h
      exact ⟨h1.symm, ofVals_one h, h2⟩
  · cases h

theorem op_new (R : Rel g O0 w0 w) {t : TypeId} {zs : List V} (ho : o.op = .alloc t) (hz : zeroOf P t = some zs) (hN : N ∈ rc.upd.map (·.1) → ¬ g.D N)
    (hv : vop call g.h N e (.new zs) = some (.ok rc)) : OpOk P ρ o g O0 w0 w rc := by
  simp only [vop, v_mov, v_pick, v_new, v_box, v_build, v_buildS, v_load, v_store, v_nilc, v_bin, v_una, v_conv, v_mkI, v_mkF, v_mkM, v_mkS, v_slc, v_fad, v_fld, v_iad, v_idx, v_look, v_mset, v_rng, v_nxt, v_tas, v_ext, v_call, v_calld, v_len, v_app, v_copy, v_clearM, v_clearS, v_del, v_mx, v_pan, Option.some.injEq, Res.ok.injEq] at hv
  subst hv
  obtain ⟨zv, _, hzr, hzc⟩ := zeroOf_run hz w
  have hC := hzc g w true
  have hl := hC.len
  obtain ⟨h1, h2, h3⟩ := new_cells R (c := 0) (cs := zs) (esz := zs.length) (hN (by simp)) (alloc_heap w (.cells zv.cells t)) rfl rfl rfl (by simp at hl; omega) (by simp) (by rw [List.take_of_length_le (by omega)]; exact hC)
  refine ⟨_, _, _, .pointer (some ⟨w.heap.size, 0, none⟩), ?_, .inl rfl, h3, h1, h2, ?_⟩
  · simp [execOp, ho, Instr.alloc, hzr, newVar, newRow]
  · have := VR.ptr (g := g.new N w.heap.size 0 (.cells zs zs.length)) (w := w.alloc (.cells zv.cells t)) N 0 (.inr rfl)
    simpa [G.new] using this

theorem op_box (R : Rel g O0 w0 w) (E : Evs g w e ρ) {t : TypeId} {x : Operand} {x' : Od} {n : Nat} (ho : o.op = .box t x) (hx : odOf x = some x') (hN : N ∈ rc.upd.map (·.1) → ¬ g.D N)
    (hv : vop call g.h N e (.box x' n) = some (.ok rc)) : OpOk P ρ o g O0 w0 w rc := by
  have h1 := od_ok E hx
  simp only [vop, v_mov, v_pick, v_new, v_box, v_build, v_buildS, v_load, v_store, v_nilc, v_bin, v_una, v_conv, v_mkI, v_mkF, v_mkM, v_mkS, v_slc, v_fad, v_fld, v_iad, v_idx, v_look, v_mset, v_rng, v_nxt, v_tas, v_ext, v_call, v_calld, v_len, v_app, v_copy, v_clearM, v_clearS, v_del, v_mx, v_pan] at hv
  split at hv
  · rename_i cs hcs
    split at hv
    · rename_i hn
      simp only [Option.some.injEq, Res.ok.injEq] at hv
      subst hv
      have hC := cells_of h1 hcs
      have hl := hC.len
      obtain ⟨q1, q2, q3⟩ := new_cells R (c := 0) (cs := cs) (esz := n) (hN (by simp)) (alloc_heap w (.cells (ρ x).cells t)) rfl rfl rfl (by simp at hl; omega) (by simp) (by rw [List.take_of_length_le (by omega)]; exact hC)
      refine ⟨_, _, _, .pointer (some ⟨w.heap.size, 0, none⟩), ?_, .inl rfl, q3, q1, q2, ?_⟩
      · simp [execOp, ho, Instr.box, newVar, newRow]
      · have := VR.ptr (g := g.new N w.heap.size 0 (.cells cs n)) (w := w.alloc (.cells (ρ x).cells t)) N 0 (.inr rfl)
        simpa [G.new] using this
    · cases hv
  · cases hv

theorem op_mkM (R : Rel g O0 w0 w) {t : TypeId} (ho : o.op = .makeMap t none) (hN : N ∈ rc.upd.map (·.1) → ¬ g.D N)
    (hv : vop call g.h N e .mkM = some (.ok rc)) : OpOk P ρ o g O0 w0 w rc := by
  simp only [vop, v_mov, v_pick, v_new, v_box, v_build, v_buildS, v_load, v_store, v_nilc, v_bin, v_una, v_conv, v_mkI, v_mkF, v_mkM, v_mkS, v_slc, v_fad, v_fld, v_iad, v_idx, v_look, v_mset, v_rng, v_nxt, v_tas, v_ext, v_call, v_calld, v_len, v_app, v_copy, v_clearM, v_clearS, v_del, v_mx, v_pan, Option.some.injEq, Res.ok.injEq] at hv
  subst hv
  obtain ⟨q1, q2, q3⟩ := new_ok R (c := 0) (vo := .map []) (hN (by simp)) ⟨_, alloc_heap w (.map #[] 0)⟩ rfl rfl rfl fun S => ⟨#[], 0, by rw [alloc_heap]; simp [G.new], rfl, fun j e m he => by simp at he⟩
  refine ⟨_, _, _, .map (some w.heap.size), ?_, .inl rfl, q3, q1, q2, ?_⟩
  · simp [execOp, ho, Instr.makeMap]
  · have := VR.mp (g := g.new N w.heap.size 0 (.map [])) (w := w.alloc (.map #[] 0)) N (.inr rfl)
    simpa [G.new] using this

theorem op_rng (R : Rel g O0 w0 w) (E : Evs g w e ρ) {t : TypeId} {x : Operand} {x' : Od} (ho : o.op = .range t x) (ht : P.underlying t = some .string) (hx : odOf x = some x') (hN : N ∈ rc.upd.map (·.1) → ¬ g.D N)
    (hv : vop call g.h N e (.rng x') = some (.ok rc)) : OpOk P ρ o g O0 w0 w rc := by
  have h1 := od_ok E hx
  simp only [vop, v_mov, v_pick, v_new, v_box, v_build, v_buildS, v_load, v_store, v_nilc, v_bin, v_una, v_conv, v_mkI, v_mkF, v_mkM, v_mkS, v_slc, v_fad, v_fld, v_iad, v_idx, v_look, v_mset, v_rng, v_nxt, v_tas, v_ext, v_call, v_calld, v_len, v_app, v_copy, v_clearM, v_clearS, v_del, v_mx, v_pan] at hv
  split at hv
  · rename_i s hq
    simp only [Option.some.injEq, Res.ok.injEq] at hv
    subst hv
    rw [hq] at h1
    have hu := h1.inv_str
    obtain ⟨q1, q2, q3⟩ := new_ok R (c := 0) (vo := .iter s 0) (hN (by simp)) ⟨_, alloc_heap w (.stringIter ⟨s.toArray⟩ 0)⟩ rfl rfl rfl fun S => by show _ = _; rw [alloc_heap]; simp [G.new]
    refine ⟨_, _, _, .pointer (some ⟨w.heap.size, 0, none⟩), ?_, .inl rfl, q3, q1, q2, ?_⟩
    · simp [execOp, ho, Instr.range, run_underlying ht, hu]
    · have := VR.ptr (g := g.new N w.heap.size 0 (.iter s 0)) (w := w.alloc (.stringIter ⟨s.toArray⟩ 0)) N 0 (.inr rfl)
      simpa [G.new] using this
  · cases hv
end
end Go.Pv
