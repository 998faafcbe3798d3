/-
  The abstract machine: values, memory with fixed places, a small code; its run is a computation without order, capacity or tape. What it computes, Go's model computes too (AbsD, AbsE).
-/
import GoSem.Core.Code
import GoSem.Core.View
import GoSem.Core.Utf8
import GoSem.Op.String
namespace Go.Abs

/-- What is told in place: scalars, and slices that nobody writes to ('lit': its tag, its cells, its length in elements). -/
inductive IV where
  | bool (b : Bool)
  | int (k : IntKind) (n : Int)
  | str (s : List UInt8)
  | nilS
  | emp
  | lit (t : Nat) (cells : List IV) (len : Nat)
  | lp (t : Nat) (cells : List IV)
  | nilP
  | gp (g off : Nat)
  | nilM
  | nilF
  | clo (f : Nat) (caps : List IV)
  | nilI
  deriving Inhabited

/-- A value of one cell: in place, or a reference to a block (its place, its generation). -/
inductive AR where
  | i (v : IV)
  | ptr (b g off : Nat)
  | sl (b g off sz len : Nat)
  | map (b g : Nat)
  deriving Inhabited

inductive AC where
  | r (a : AR)
  | clo (f : Nat) (caps : List AR)
  deriving Inhabited

inductive A1 where
  | c (x : AC)
  | agg (xs : List AC)
  deriving Inhabited

inductive AV where
  | und
  | skp
  | v (a : A1)
  | tup (l : List A1)
  deriving Inhabited

abbrev I (v : IV) : AC := .r (.i v)
abbrev V (v : IV) : AV := .v (.c (.r (.i v)))

structure Ent where
  key : A1
  val : A1
  born : Nat
  deriving Inhabited

inductive Blk where
  | cells (g : Nat) (cs : List AC)
  | map (g : Nat) (es : List Ent) (clock : Nat)
  | iter (g : Nat) (s : List UInt8) (pos : Nat)
  deriving Inhabited

def Blk.gen : Blk → Nat
  | .cells g _ | .map g _ _ | .iter g _ _ => g

abbrev Heap := List (Nat × Blk)

def Heap.get : Heap → Nat → Option Blk
  | [], _ => none
  | (k, x) :: h, b => if k = b then some x else Heap.get h b

def Heap.set : Heap → Nat → Blk → Heap
  | [], b, y => [(b, y)]
  | (k, x) :: h, b, y => if k = b then (k, y) :: h else (k, x) :: Heap.set h b y

def Heap.del : Heap → Nat → Heap
  | [], _ => []
  | (k, x) :: h, b => if k = b then Heap.del h b else (k, x) :: Heap.del h b

structure St where
  tm : List AV
  hp : Heap
  ct : Nat
  deriving Inhabited

mutual
def IV.retag (t : Nat) : IV → IV
  | .lit _ cs n => .lit t (IV.retags t cs) n
  | .lp _ cs => .lp t (IV.retags t cs)
  | .clo f cs => .clo f (IV.retags t cs)
  | v => v
def IV.retags (t : Nat) : List IV → List IV
  | [] => []
  | v :: l => v.retag t :: IV.retags t l
end

mutual
/-- Every tag is 0. -/
def IV.fresh : IV → Bool
  | .lit t cs _ => t == 0 && IV.freshs cs
  | .lp t cs => t == 0 && IV.freshs cs
  | .clo _ cs => IV.freshs cs
  | _ => true
def IV.freshs : List IV → Bool
  | [] => true
  | v :: l => v.fresh && IV.freshs l
end

/-- The generation of a live block. -/
def Heap.cur (h : Heap) (b : Nat) : Option Nat := (h.get b).map Blk.gen

/-- The cells of a live block, if the generation is the last one. -/
def Heap.row (h : Heap) (b g : Nat) : Option (List AC) :=
  match h.get b with
  | some (.cells g' cs) => if g' = g then some cs else none
  | _ => none

def Heap.mapAt (h : Heap) (b g : Nat) : Option (List Ent × Nat) :=
  match h.get b with
  | some (.map g' es k) => if g' = g then some (es, k) else none
  | _ => none

/-- What is told in place. -/
def inlR : AR → Option IV
  | .i v => some v
  | _ => none

def traverse {α β : Type} (f : α → Option β) : List α → Option (List β)
  | [] => some []
  | a :: l => match f a with
    | none => none
    | some b => match traverse f l with
      | none => none
      | some bs => some (b :: bs)

/-- What a value reads as in place: slices of blocks become literals with the tag 't'. Blocks that 'q' refuses aren't entered. -/
def rd (q : Nat → Bool) (h : Heap) (t : Nat) : Nat → AC → Option IV
  | _, .r (.i v) => some v
  | n + 1, .r (.sl b g off sz len) =>
    if q b then
      match h.row b g with
      | none => none
      | some cs =>
        if off + len * sz ≤ cs.length then
          match traverse (rd q h t n) ((cs.drop off).take (len * sz)) with
          | none => none
          | some vs => some (.lit t vs len)
        else none
    else none
  | n + 1, .r (.ptr b g off) =>
    if q b then
      match h.row b g with
      | none => none
      | some cs => match traverse (rd q h t n) (cs.drop off) with
        | none => none
        | some vs => some (.lp t vs)
    else none
  | _ + 1, .clo f caps =>
    match traverse inlR caps with
    | none => none
    | some vs => some (.clo f vs)
  | _, _ => none

def rdDepth : Nat := 6

/- The code. -/
inductive Opd where
  | t (n : Nat)
  | c (v : IV)
  | ca (l : List IV)
  deriving Inhabited

/-- How a call treats what it is given and what comes back: 'give': the positions (argument, cell) whose slices are handed over as blocks; 'ad': blocks of the callee that the caller takes over, with their places there. -/
structure How where
  give : List (Nat × Nat)
  ad : List (Nat × Nat)
  pure : Bool
  deriving Inhabited

inductive K where
  | mov (x : Opd)
  | pick (c a b : Opd)
  | fld (off n : Nat) (agg : Bool) (x : Opd)
  | idx (len sz : Nat) (agg : Bool) (x i : Opd)
  | idxS (x i : Opd)
  | bin (op : BinOp) (x y : Opd)
  | eqB (neg : Bool) (x y : Opd)
  | eqN (neg : Bool) (ty : Nat) (x y : Opd)
  | eqv (neg : Bool) (ks : List Nat) (x y : Opd)
  | un (op : UnOp) (x : Opd)
  | cvI (k : IntKind) (x : Opd)
  | cvIS (x : Opd)
  | cvSS (x : Opd)
  | cvBS (x : Opd)
  | cvSB (x : Opd)
  | alloc (cs : List IV)
  | box (n : Nat) (x : Opd)
  | build (zero : List IV) (places : List (Nat × Nat)) (parts : List (Nat × Opd))
  | bsl (sz len : Nat) (zero : List IV) (parts : List (Nat × Opd)) (own : Bool)
  | load (n : Nat) (agg : Bool) (a : Opd)
  | store (n : Nat) (a x : Opd)
  | nilchk (x : Opd)
  | fadr (off : Nat) (a : Opd)
  | iadr (sz : Nat) (x i : Opd)
  | iadrA (len sz : Nat) (x i : Opd)
  | slcS (x : Opd) (lo hi : Option Opd)
  | slc (sz : Nat) (x : Opd) (lo hi mx : Option Opd)
  | slcA (len sz : Nat) (x : Opd) (lo hi : Option Opd)
  | mksl (sz bytes : Nat) (zero : List IV) (l c : Opd)
  | mkmap
  | lkp (kt : Nat) (zero : List IV) (agg : Bool) (ok : Bool) (m k : Opd)
  | mupd (kt : Nat) (m k v : Opd)
  | ment (kt : Nat) (zero : List IV) (agg : Bool) (m k : Opd)
  | ests (m s v : Opd)
  | mkfn (f : Nat) (caps : List Opd)
  | len (ty : Nat) (x : Opd)
  | lenA (n : Nat)
  | mx (l : List Opd)
  | mn (l : List Opd)
  | app (sz bytes : Nat) (str : Bool) (x y : Opd)
  | appZ (sz bytes : Nat) (zero : List IV) (x n : Opd)
  | copy (sz : Nat) (str : Bool) (x y : Opd)
  | del (kt : Nat) (m k : Opd)
  | ext (x : Opd) (n : Nat)
  | call (f : Nat) (args : List Opd) (how : How)
  | callv (x : Opd) (args : List Opd) (how : How)
  | rng (x : Opd)
  | nxt (x : Opd)
  | galloc (n t : Nat)
  | gsto (n : Nat) (x : Opd)
  deriving Inhabited

inductive Ins where
  | kill (ts : List Nat) (bs : List Nat)
  | frz (t : Nat)
  | op (dst : Option Nat) (guard : Option (Nat × Bool)) (k : K)
  deriving Inhabited

inductive IR where
  | skip
  | reg (l : List Ins)
  | regD (l : List Ins) (pre : List (List Nat))
  | ghost (l : List Ins) (a : IR)
  | seq (a b : IR)
  | cond (x : Opd) (a b : IR)
  | block (id : Nat) (a : IR)
  | loop (a : IR)
  | exit (id : Nat)
  | ret
  deriving Inhabited

inductive Res where
  | tmp (t : Nat)
  | cell (t n : Nat) (agg : Bool)
  deriving Inhabited

structure Fn where
  nt : Nat
  res : List Res
  body : IR
  deriving Inhabited

inductive Ex where
  | normal | exit (id : Nat) | ret
  deriving DecidableEq, Inhabited

def St.get (s : St) (t : Nat) : AV := s.tm.getD t .und

def St.put (s : St) (d : Option Nat) (v : AV) : St :=
  match d with
  | some d => { s with tm := s.tm.set d v }
  | none => s

def ev (s : St) : Opd → AV
  | .t n => s.get n
  | .c v => V v
  | .ca l => .v (.agg (l.map I))

/-- The value as one of cells. -/
def AV.one : AV → Option A1
  | .v a => some a
  | _ => none

def A1.cells : A1 → List AC
  | .c x => [x]
  | .agg xs => xs

def mk1 (agg : Bool) (cs : List AC) : Option A1 :=
  if agg then some (.agg cs) else match cs with | [x] => some (.c x) | _ => none

def AV.int : AV → Option (IntKind × Int)
  | .v (.c (.r (.i (.int k n)))) => some (k, n)
  | _ => none

def AV.nat (v : AV) : Option Nat :=
  match v.int with
  | some (_, n) => if 0 ≤ n then some n.toNat else none
  | none => none

def AV.bool : AV → Option Bool
  | .v (.c (.r (.i (.bool b)))) => some b
  | _ => none

def AV.strv : AV → Option (List UInt8)
  | .v (.c (.r (.i (.str s)))) => some s
  | _ => none

def intBin (op : BinOp) (k : IntKind) (a b : Int) : Option IV :=
  match op with
  | .add => some (.int k (k.wrap (a + b)))
  | .sub => some (.int k (k.wrap (a - b)))
  | .mul => some (.int k (k.wrap (a * b)))
  | .quo => if b = 0 then none else some (.int k (k.wrap (a.tdiv b)))
  | .rem => if b = 0 then none else some (.int k (a.tmod b))
  | .and => some (.int k (k.wrap (BitVec.ofInt k.bits a &&& BitVec.ofInt k.bits b).toNat))
  | .or => some (.int k (k.wrap (BitVec.ofInt k.bits a ||| BitVec.ofInt k.bits b).toNat))
  | .xor => some (.int k (k.wrap (BitVec.ofInt k.bits a ^^^ BitVec.ofInt k.bits b).toNat))
  | .andNot => some (.int k (k.wrap (BitVec.ofInt k.bits a &&& ~~~(BitVec.ofInt k.bits b)).toNat))
  | .eql => some (.bool (a == b))
  | .neq => some (.bool (a != b))
  | .lss => some (.bool (a < b))
  | .leq => some (.bool (a ≤ b))
  | .gtr => some (.bool (a > b))
  | .geq => some (.bool (a ≥ b))
  | _ => none

def shiftBin (op : BinOp) (k : IntKind) (a b : Int) : Option IV :=
  if b < 0 then none else
  match op with
  | .shl => some (.int k (k.wrap (a * 2 ^ (min b.toNat k.bits))))
  | .shr => some (.int k (a.fdiv (2 ^ (min b.toNat k.bits))))
  | _ => none

def strBin (op : BinOp) (x y : List UInt8) : Option IV :=
  match op with
  | .add => if x.length + y.length ≤ 4611686018427387904 then some (.str (x ++ y)) else none
  | .eql => some (.bool (x == y))
  | .neq => some (.bool (!(x == y)))
  | .lss => some (.bool (Op.bytesLess x y))
  | .leq => some (.bool (Op.bytesLess x y || x == y))
  | .gtr => some (.bool (!(Op.bytesLess x y || x == y)))
  | .geq => some (.bool (!Op.bytesLess x y))
  | _ => none

/-- Is it nil: of pointers (0), slices (1), maps (2), functions (3). -/
def isNil (h : Heap) (ty : Nat) : AC → Option Bool
  | .r (.i .nilP) => if ty = 0 then some true else none
  | .r (.i .nilS) => if ty = 1 then some true else none
  | .r (.i .nilM) => if ty = 2 then some true else none
  | .r (.i .nilF) => if ty = 3 then some true else none
  | .r (.i (.lp ..)) => if ty = 0 then some false else none
  | .r (.i (.gp ..)) => if ty = 0 then some false else none
  | .r (.i .emp) => if ty = 1 then some false else none
  | .r (.i (.lit ..)) => if ty = 1 then some false else none
  | .r (.i (.clo ..)) => if ty = 3 then some false else none
  | .r (.ptr b g _) => if ty = 0 ∧ h.cur b = some g then some false else none
  | .r (.sl b g _ _ _) => if ty = 1 ∧ h.cur b = some g then some false else none
  | .r (.map b g) => if ty = 2 ∧ h.cur b = some g then some false else none
  | .clo .. => if ty = 3 then some false else none
  | _ => none

def binV (op : BinOp) (x y : AV) : Option IV :=
  match x, y with
  | .v (.c (.r (.i (.int k a)))), .v (.c (.r (.i (.int k' b)))) =>
    match op with
    | .shl | .shr => shiftBin op k a b
    | _ => if k = k' then intBin op k a b else none
  | .v (.c (.r (.i (.str a)))), .v (.c (.r (.i (.str b)))) => strBin op a b
  | _, _ => none

/-- Equality of plain cells. -/
def eqCell : AC → AC → Option Bool
  | .r (.i (.int k a)), .r (.i (.int k' b)) => if k = k' then some (a == b) else none
  | .r (.i (.str a)), .r (.i (.str b)) => some (a == b)
  | .r (.i (.bool a)), .r (.i (.bool b)) => some (a == b)
  | _, _ => none

/-- Cells of a kind (0: integers, 1: strings, 2: truths). -/
def eqCellK : Nat → AC → AC → Option Bool
  | 0, .r (.i (.int k a)), .r (.i (.int k' b)) => if k = k' then some (a == b) else none
  | 1, .r (.i (.str a)), .r (.i (.str b)) => some (a == b)
  | 2, .r (.i (.bool a)), .r (.i (.bool b)) => some (a == b)
  | _, _, _ => none

def eqCellsK : List Nat → List AC → List AC → Option Bool
  | [], [], [] => some true
  | k :: ks, x :: xs, y :: ys => match eqCellK k x y, eqCellsK ks xs ys with
    | some a, some b => some (a && b)
    | _, _ => none
  | _, _, _ => none

def eqCells : List AC → List AC → Option Bool
  | [], [] => some true
  | x :: xs, y :: ys =>
    match eqCell x y, eqCells xs ys with
    | some a, some b => some (a && b)
    | _, _ => none
  | _, _ => none

/-- Where an address leads to: the cells from there on. -/
def lookAt (G : Nat → List IV) (h : Heap) : AC → Option (List AC)
  | .r (.i (.lp _ cs)) => some (cs.map I)
  | .r (.i (.gp g off)) => some ((G g).drop off |>.map I)
  | .r (.ptr b g off) =>
    match h.row b g with
    | some cs => some (cs.drop off)
    | none => none
  | _ => none

def takeN (n : Nat) (cs : List AC) : Option (List AC) := if n ≤ cs.length then some (cs.take n) else none

/-- Cells laid over others from a place on. -/
def lay (cs : List AC) (off : Nat) (new : List AC) : List AC := cs.take off ++ new ++ cs.drop (off + new.length)

def fillP (places : List (Nat × Nat)) (cells : List AC) : List (Nat × A1) → Option (List AC)
  | [] => some cells
  | (i, v) :: rest =>
    match places[i]? with
    | none => none
    | some (off, n) =>
      if v.cells.length = n ∧ off + n ≤ cells.length then fillP places (lay cells off v.cells) rest else none

def fillS (sz : Nat) (cells : List AC) : List (Nat × A1) → Option (List AC)
  | [] => some cells
  | (i, v) :: rest =>
    if v.cells.length = sz ∧ i * sz + sz ≤ cells.length then fillS sz (lay cells (i * sz) v.cells) rest else none

def repC (n : Nat) (zero : List IV) : List AC :=
  match n with
  | 0 => []
  | n + 1 => zero.map I ++ repC n zero

/-- The cells that a slice has (a string: its bytes). -/
def slCells (h : Heap) (sz : Nat) : AC → Option (List AC × Nat)
  | .r (.i .nilS) | .r (.i .emp) => some ([], 0)
  | .r (.i (.lit _ cs n)) => if cs.length = n * sz then some (cs.map I, n) else none
  | .r (.sl b g off sz' n) =>
    if sz' = sz then
      match h.row b g with
      | some cs => if off + n * sz ≤ cs.length then some ((cs.drop off).take (n * sz), n) else none
      | none => none
    else none
  | .r (.i (.str s)) => if sz = 1 then some (s.map fun c => I (.int .u8 c.toNat), s.length) else none
  | _ => none

def isStrC : AC → Bool
  | .r (.i (.str _)) => true
  | _ => false

def bound (d : Nat) (s : St) (o : Option Opd) : Option Nat :=
  match o with
  | none => some d
  | some x => (ev s x).nat

/-- A key of a map: one plain cell of a kind: 0 a number, 1 a string, 2 a truth value. -/
def plainKey (kt : Nat) : AV → Option A1
  | .v (.c (.r (.i (.int k n)))) => if kt = 0 then some (.c (.r (.i (.int k n)))) else none
  | .v (.c (.r (.i (.str x)))) => if kt = 1 then some (.c (.r (.i (.str x)))) else none
  | .v (.c (.r (.i (.bool x)))) => if kt = 2 then some (.c (.r (.i (.bool x)))) else none
  | _ => none

/-- Are two keys one? -/
def eqKey : A1 → A1 → Option Bool
  | .c x, .c y => eqCell x y
  | _, _ => none

def findEnt (k : A1) : List Ent → Option (Option A1)
  | [] => some none
  | e :: es =>
    match eqKey k e.key with
    | some true => some (some e.val)
    | some false => findEnt k es
    | none => none

def setEnt (k : A1) (v : A1) : List Ent → List Ent
  | [] => []
  | e :: es => match eqKey k e.key with
    | some true => { e with key := k, val := v } :: es
    | _ => e :: setEnt k v es

/-- The entry that was born then. -/
def setBorn (n : Nat) (v : A1) : List Ent → Option (List Ent)
  | [] => none
  | e :: es => if e.born = n then some ({ e with val := v } :: es) else (setBorn n v es).map (e :: ·)

def delEnt (k : A1) : List Ent → List Ent
  | [] => []
  | e :: es => match eqKey k e.key with
    | some true => es
    | _ => e :: delEnt k es

def maxI : AV → AV → Option AV
  | .v (.c (.r (.i (.int k x)))), .v (.c (.r (.i (.int k' y)))) => if k = k' then some (V (.int k (if y > x then y else x))) else none
  | _, _ => none
def minI : AV → AV → Option AV
  | .v (.c (.r (.i (.int k x)))), .v (.c (.r (.i (.int k' y)))) => if k = k' then some (V (.int k (if y < x then y else x))) else none
  | _, _ => none
def foldV (f : AV → AV → Option AV) : AV → List AV → Option AV
  | x, [] => some x
  | x, y :: l => match f x y with | some z => foldV f z l | none => none

/-- A value and what became of memory. -/
abbrev Out := Option (AV × Heap × Nat)

def okv (s : St) (v : Option IV) : Out := v.map fun v => (V v, s.hp, s.ct)
def ok1 (s : St) (v : Option A1) : Out := v.map fun v => (.v v, s.hp, s.ct)

def capOf : AC → Option AR
  | .r a => some a
  | .clo f caps => (traverse inlR caps).map fun vs => .i (.clo f vs)

def mkClo (f : Nat) (caps : List AR) : AC :=
  match traverse inlR caps with
  | some vs => .r (.i (.clo f vs))
  | none => .clo f caps

def utf8Next (s : List UInt8) (pos : Nat) : Nat × Nat := Utf8.decode ⟨s.toArray⟩ pos

def byteOf : AC → Option UInt8
  | .r (.i (.int .u8 n)) => some (UInt8.ofNat n.toNat)
  | _ => none

/-- What is appended: cells, how many. -/
def appTo (s : St) (d sz bytes : Nat) (a : AC) (new : List AC) (n : Nat) : Out :=
  match a with
  | .r (.i .nilS) =>
    if n = 0 then some (V .nilS, s.hp, s.ct)
    else if n * bytes ≤ 17592186044416 ∧ n ≤ 17592186044416 then some (.v (.c (.r (.sl d s.ct 0 sz n))), s.hp.set d (.cells s.ct new), s.ct + 1) else none
  | .r (.i .emp) =>
    if n = 0 then some (V .emp, s.hp, s.ct)
    else if n * bytes ≤ 17592186044416 ∧ n ≤ 17592186044416 then some (.v (.c (.r (.sl d s.ct 0 sz n))), s.hp.set d (.cells s.ct new), s.ct + 1) else none
  | .r (.sl b g off sz' len) =>
    match s.hp.row b g with
    | some cs => if sz' = sz ∧ off + len * sz ≤ cs.length ∧ (len + n) * bytes ≤ 17592186044416 ∧ len + n ≤ 17592186044416 then
        some (.v (.c (.r (.sl b s.ct off sz (len + n)))), s.hp.set b (.cells s.ct (cs.take (off + len * sz) ++ new)), s.ct + 1) else none
    | none => none
  | _ => none


/-- A cell that is told in place. -/
def cellI : AC → Option IV
  | .r (.i v) => some v
  | _ => none

/-- One operation that is no call. 'd': its slot, the place of the block that it makes. -/
def step (G : Nat → List IV) (s : St) (d : Nat) : K → Out
  | .mov x => match ev s x with
    | .und => none
    | .skp => none
    | v => some (v, s.hp, s.ct)
  | .pick c a b => match (ev s c).bool with
    | some true => some (ev s a, s.hp, s.ct)
    | some false => some (ev s b, s.hp, s.ct)
    | none => none
  | .fld off n agg x => match ev s x with
    | .v (.agg xs) => match takeN n (xs.drop off) with
      | some cs => ok1 s (mk1 agg cs)
      | none => none
    | _ => none
  | .idx len sz agg x i => match ev s x, (ev s i).nat with
    | .v (.agg xs), some i => if i < len then match takeN sz (xs.drop (i * sz)) with
        | some cs => ok1 s (mk1 agg cs)
        | none => none
      else none
    | _, _ => none
  | .idxS x i => match (ev s x).strv, (ev s i).nat with
    | some l, some i => match l[i]? with
      | some c => okv s (some (.int .u8 c.toNat))
      | none => none
    | _, _ => none
  | .bin op x y => okv s (binV op (ev s x) (ev s y))
  | .eqB neg x y => match (ev s x).bool, (ev s y).bool with
    | some a, some b => okv s (some (.bool (if neg then !(a == b) else a == b)))
    | _, _ => none
  | .eqN neg ty x y => match ev s x, ev s y with
    | .v (.c a), .v (.c b) => match isNil s.hp ty a, isNil s.hp ty b with
      | some a, some b => if a || b then okv s (some (.bool (if neg then !(a == b) else a == b))) else none
      | _, _ => none
    | _, _ => none
  | .eqv neg ks x y => match ev s x, ev s y with
    | .v (.agg xs), .v (.agg ys) => okv s ((eqCellsK ks xs ys).map fun b => .bool (if neg then !b else b))
    | _, _ => none
  | .un op x => match op, ev s x with
    | .neg, .v (.c (.r (.i (.int k n)))) => okv s (some (.int k (k.wrap (0 - n))))
    | .xor, .v (.c (.r (.i (.int k n)))) => okv s (intBin .xor k (if k.signed then -1 else k.max) n)
    | .not, .v (.c (.r (.i (.bool b)))) => okv s (some (.bool !b))
    | _, _ => none
  | .cvI k x => match (ev s x).int with
    | some (_, n) => okv s (some (.int k (k.wrap n)))
    | none => none
  | .cvIS x => match (ev s x).int with
    | some (_, n) => okv s (some (.str (Utf8.encode n).data.toList))
    | none => none
  | .cvSS x => match (ev s x).strv with
    | some l => okv s (some (.str l))
    | none => none
  | .cvBS x => match ev s x with
    | .v (.c a) => match if isStrC a then none else slCells s.hp 1 a with
      | some (cs, _) => okv s ((traverse byteOf cs).map .str)
      | none => none
    | _ => none
  | .cvSB x => match (ev s x).strv with
    | some l => if l.length ≤ 1099511627776 then some (.v (.c (.r (.sl d s.ct 0 1 l.length))), s.hp.set d (.cells s.ct (l.map fun c => I (.int .u8 c.toNat))), s.ct + 1) else none
    | none => none
  | .alloc cs => some (.v (.c (.r (.ptr d s.ct 0))), s.hp.set d (.cells s.ct (cs.map I)), s.ct + 1)
  | .box n x => match ev s x with
    | .v a => if a.cells.length = n then some (.v (.c (.r (.ptr d s.ct 0))), s.hp.set d (.cells s.ct a.cells), s.ct + 1) else none
    | _ => none
  | .build zero places parts => match traverse (fun p : Nat × Opd => (ev s p.2).one.map fun a => (p.1, a)) parts with
    | some ps => ok1 s ((fillP places (zero.map I) ps).map .agg)
    | none => none
  | .bsl sz len zero parts own => match traverse (fun p : Nat × Opd => (ev s p.2).one.map fun a => (p.1, a)) parts with
    | some ps => if len * sz ≤ 16777216 ∧ zero.length = sz then
        match fillS sz (repC len zero) ps with
        | some cs =>
          if own then some (.v (.c (.r (.sl d s.ct 0 sz len))), s.hp.set d (.cells s.ct cs), s.ct + 1)
          else match traverse (rd (fun _ => false) s.hp 0 0) cs with
            | some vs => some (V (.lit 0 vs len), s.hp, s.ct)
            | none => none
        | none => none
      else none
    | none => none
  | .load n agg a => match ev s a with
    | .v (.c p) => match lookAt G s.hp p with
      | some cs => match takeN n cs with
        | some cs => ok1 s (mk1 agg cs)
        | none => none
      | none => none
    | _ => none
  | .store n a x => match ev s a, ev s x with
    | .v (.c (.r (.ptr b g off))), .v w => match s.hp.row b g with
      | some cs => if w.cells.length = n ∧ off + n ≤ cs.length then some (.und, s.hp.set b (.cells g (lay cs off w.cells)), s.ct) else none
      | none => none
    | _, _ => none
  | .nilchk x => match ev s x with
    | .v (.c (.r (.ptr b g off))) => if s.hp.cur b = some g then some (.v (.c (.r (.ptr b g off))), s.hp, s.ct) else none
    | .v (.c (.r (.i (.lp t cs)))) => some (V (.lp t cs), s.hp, s.ct)
    | .v (.c (.r (.i (.gp g off)))) => some (V (.gp g off), s.hp, s.ct)
    | .v (.c (.r (.i (.clo f cs)))) => some (V (.clo f cs), s.hp, s.ct)
    | .v (.c (.clo f cs)) => some (.v (.c (.clo f cs)), s.hp, s.ct)
    | _ => none
  | .fadr off a => match ev s a with
    | .v (.c (.r (.ptr b g o))) => if s.hp.cur b = some g then some (.v (.c (.r (.ptr b g (o + off)))), s.hp, s.ct) else none
    | .v (.c (.r (.i (.lp t cs)))) => some (V (.lp t (cs.drop off)), s.hp, s.ct)
    | .v (.c (.r (.i (.gp g o)))) => some (V (.gp g (o + off)), s.hp, s.ct)
    | _ => none
  | .iadr sz x i => match ev s x, (ev s i).nat with
    | .v (.c (.r (.sl b g off sz' len))), some i => if sz' = sz ∧ i < len ∧ s.hp.cur b = some g then some (.v (.c (.r (.ptr b g (off + i * sz)))), s.hp, s.ct) else none
    | .v (.c (.r (.i (.lit t cs len)))), some i => if i < len ∧ cs.length = len * sz then some (V (.lp t ((cs.drop (i * sz)).take sz)), s.hp, s.ct) else none
    | _, _ => none
  | .iadrA len sz x i => match ev s x, (ev s i).nat with
    | .v (.c (.r (.ptr b g off))), some i => if i < len ∧ s.hp.cur b = some g then some (.v (.c (.r (.ptr b g (off + i * sz)))), s.hp, s.ct) else none
    | .v (.c (.r (.i (.gp g off)))), some i => if i < len then some (V (.gp g (off + i * sz)), s.hp, s.ct) else none
    | _, _ => none
  | .slcS x lo hi => match (ev s x).strv with
    | some l => match bound 0 s lo, bound l.length s hi with
      | some a, some b => if a ≤ b ∧ b ≤ l.length then okv s (some (.str ((l.drop a).take (b - a)))) else none
      | _, _ => none
    | none => none
  | .slc sz x lo hi mx => match ev s x with
    | .v (.c (.r (.i .nilS))) => match bound 0 s lo, bound 0 s hi, bound 0 s mx with
      | some 0, some 0, some 0 => some (V .nilS, s.hp, s.ct)
      | _, _, _ => none
    | .v (.c (.r (.i .emp))) => match bound 0 s lo, bound 0 s hi, bound 0 s mx with
      | some 0, some 0, some 0 => some (V .emp, s.hp, s.ct)
      | _, _, _ => none
    | .v (.c (.r (.i (.lit t cs len)))) => match mx with
      | none => match bound 0 s lo, bound len s hi with
        | some a, some b => if a ≤ b ∧ b ≤ len ∧ cs.length = len * sz then some (V (.lit t ((cs.drop (a * sz)).take ((b - a) * sz)) (b - a)), s.hp, s.ct) else none
        | _, _ => none
      | some _ => match bound 0 s lo, bound 1 s hi, bound 1 s mx with
        | some 0, some 0, some 0 => some (V .emp, s.hp, s.ct)
        | _, _, _ => none
    | .v (.c (.r (.sl b g off sz' len))) => match mx with
      | none => match bound 0 s lo, bound len s hi with
        | some x, some y => if x ≤ y ∧ y ≤ len ∧ sz' = sz ∧ s.hp.cur b = some g then some (.v (.c (.r (.sl b g (off + x * sz) sz (y - x)))), s.hp, s.ct) else none
        | _, _ => none
      | some _ => match bound 0 s lo, bound 1 s hi, bound 1 s mx with
        | some 0, some 0, some 0 => if s.hp.cur b = some g then some (V .emp, s.hp, s.ct) else none
        | _, _, _ => none
    | _ => none
  | .slcA len sz x lo hi => match ev s x with
    | .v (.c (.r (.ptr b g 0))) => match bound 0 s lo, bound len s hi, s.hp.row b g with
      | some a, some c, some cs => if a ≤ c ∧ c ≤ len ∧ cs.length = len * sz then some (.v (.c (.r (.sl b g (a * sz) sz (c - a)))), s.hp, s.ct) else none
      | _, _, _ => none
    | _ => none
  | .mksl sz bytes zero l c => match (ev s l).nat, (ev s c).nat with
    | some n, some c => if n = c ∧ bytes * n ≤ 70368744177664 ∧ n ≤ 70368744177664 ∧ zero.length = sz then
        some (.v (.c (.r (.sl d s.ct 0 sz n))), s.hp.set d (.cells s.ct (repC n zero)), s.ct + 1) else none
    | _, _ => none
  | .mkmap => some (.v (.c (.r (.map d s.ct))), s.hp.set d (.map s.ct [] 0), s.ct + 1)
  | .galloc _ t => if t < s.tm.length then match s.get t with
    | .und => some (.und, s.hp, s.ct)
    | _ => none
    else none
  | .gsto n x => match ev s x with
    | .v w => if w.cells.length = n then match traverse cellI w.cells with
      | some vs => some (V (.lp 0 vs), s.hp, s.ct)
      | none => none
      else none
    | _ => none
  | .lkp kt zero agg ok m k => match ev s m, plainKey kt (ev s k) with
    | .v (.c (.r (.map b g))), some k => match s.hp.mapAt b g with
      | some (es, _) => match findEnt k es with
        | some r => match (match r with | some v => some v | none => mk1 agg (zero.map I)) with
          | some v => some (if ok then .tup [v, .c (I (.bool r.isSome))] else .v v, s.hp, s.ct)
          | none => none
        | none => none
      | none => none
    | .v (.c (.r (.i .nilM))), some _ => match mk1 agg (zero.map I) with
      | some v => some (if ok then .tup [v, .c (I (.bool false))] else .v v, s.hp, s.ct)
      | none => none
    | _, _ => none
  | .mupd kt m k v => match ev s m, plainKey kt (ev s k), ev s v with
    | .v (.c (.r (.map b g))), some k, .v v => match s.hp.mapAt b g with
      | some (es, c) => match findEnt k es with
        | some (some _) => some (.und, s.hp.set b (.map g (setEnt k v es) c), s.ct)
        | some none => some (.und, s.hp.set b (.map g (es ++ [⟨k, v, c⟩]) (c + 1)), s.ct)
        | none => none
      | none => none
    | _, _, _ => none
  | .ment kt zero agg m k => match ev s m, plainKey kt (ev s k) with
    | .v (.c (.r (.map b g))), some k => match s.hp.mapAt b g with
      | some (es, c) => match findEnt k es, es.find? (fun e => eqKey k e.key == some true) with
        | some (some v), some e => some (.tup [v, .c (I (.int .i64 e.born))], s.hp.set b (.map g (setEnt k v es) c), s.ct)
        | some none, _ => match mk1 agg (zero.map I) with
          | some v => some (.tup [v, .c (I (.int .i64 c))], s.hp.set b (.map g (es ++ [⟨k, v, c⟩]) (c + 1)), s.ct)
          | none => none
        | _, _ => none
      | none => none
    | _, _ => none
  | .ests m t v => match ev s m, (ev s t).nat, ev s v with
    | .v (.c (.r (.map b g))), some n, .v v => match s.hp.mapAt b g with
      | some (es, c) => match setBorn n v es with
        | some es' => some (.und, s.hp.set b (.map g es' c), s.ct)
        | none => none
      | none => none
    | _, _, _ => none
  | .mkfn f caps => match traverse (fun o => match ev s o with | .v (.c x) => capOf x | _ => none) caps with
    | some cs => some (.v (.c (mkClo f cs)), s.hp, s.ct)
    | none => none
  | .len ty x => match ty, ev s x with
    | 0, .v (.c (.r (.i (.str l)))) => okv s (some (.int .i64 l.length))
    | 1, .v (.c (.r (.i .nilS))) => okv s (some (.int .i64 0))
    | 1, .v (.c (.r (.i .emp))) => okv s (some (.int .i64 0))
    | 1, .v (.c (.r (.i (.lit _ _ n)))) => okv s (some (.int .i64 n))
    | 1, .v (.c (.r (.sl b g _ _ n))) => if s.hp.cur b = some g then okv s (some (.int .i64 n)) else none
    | 2, .v (.c (.r (.i .nilM))) => okv s (some (.int .i64 0))
    | 2, .v (.c (.r (.map b g))) => match s.hp.mapAt b g with
      | some (es, _) => okv s (some (.int .i64 es.length))
      | none => none
    | _, _ => none
  | .lenA n => okv s (some (.int .i64 n))
  | .mx l => match l.map (ev s) with
    | x :: r => (foldV maxI x r).map fun v => (v, s.hp, s.ct)
    | [] => none
  | .mn l => match l.map (ev s) with
    | x :: r => (foldV minI x r).map fun v => (v, s.hp, s.ct)
    | [] => none
  | .app sz bytes str x y => match ev s x, ev s y with
    | .v (.c a), .v (.c b) => match if isStrC b = str then slCells s.hp sz b else none with
      | some (new, n) => match a with
        | .r (.i .nilS) =>
          if n = 0 then some (V .nilS, s.hp, s.ct)
          else if n * bytes ≤ 17592186044416 ∧ n ≤ 17592186044416 then some (.v (.c (.r (.sl d s.ct 0 sz n))), s.hp.set d (.cells s.ct new), s.ct + 1) else none
        | .r (.i .emp) =>
          if n = 0 then some (V .emp, s.hp, s.ct)
          else if n * bytes ≤ 17592186044416 ∧ n ≤ 17592186044416 then some (.v (.c (.r (.sl d s.ct 0 sz n))), s.hp.set d (.cells s.ct new), s.ct + 1) else none
        | .r (.sl b g off sz' len) =>
          match s.hp.row b g with
          | some cs => if sz' = sz ∧ off + len * sz ≤ cs.length ∧ (len + n) * bytes ≤ 17592186044416 ∧ len + n ≤ 17592186044416 then
              some (.v (.c (.r (.sl b s.ct off sz (len + n)))), s.hp.set b (.cells s.ct (cs.take (off + len * sz) ++ new)), s.ct + 1) else none
          | none => none
        | _ => none
      | none => none
    | _, _ => none
  | .appZ sz bytes zero x y => match ev s x, ev s y with
    | .v (.c a), .v (.c (.r (.i (.int .i64 k)))) => if 0 ≤ k ∧ zero.length = sz then appTo s d sz bytes a (repC k.toNat zero) k.toNat else none
    | _, _ => none
  | .copy sz str x y => match ev s x, ev s y with
    | .v (.c (.r (.sl b g off sz' len))), .v (.c src) => match (if isStrC src = str then slCells s.hp sz src else none), s.hp.row b g with
      | some (new, n), some cs => if sz' = sz ∧ off + len * sz ≤ cs.length then
          some (V (.int .i64 (min n len)), s.hp.set b (.cells g (lay cs off (new.take (min n len * sz)))), s.ct) else none
      | _, _ => none
    | _, _ => none
  | .del kt m k => match ev s m, plainKey kt (ev s k) with
    | .v (.c (.r (.map b g))), some k => match s.hp.mapAt b g with
      | some (es, c) => match findEnt k es with
        | some _ => some (.tup [], s.hp.set b (.map g (delEnt k es) c), s.ct)
        | none => none
      | none => none
    | _, _ => none
  | .ext x n => match ev s x with
    | .tup l => ok1 s l[n]?
    | _ => none
  | .rng x => match (ev s x).strv with
    | some l => some (.v (.c (.r (.ptr d s.ct 0))), s.hp.set d (.iter s.ct l 0), s.ct + 1)
    | none => none
  | .nxt x => match ev s x with
    | .v (.c (.r (.ptr b g 0))) => match s.hp.get b with
      | some (.iter g' l pos) => if g' = g then
          if pos < l.length then
            some (.tup [.c (I (.bool true)), .c (I (.int .i64 pos)), .c (I (.int .i32 (utf8Next l pos).1))], s.hp.set b (.iter g l (pos + (utf8Next l pos).2)), s.ct)
          else some (.tup [.c (I (.bool false))], s.hp, s.ct)
        else none
      | _ => none
    | _ => none
  | .call .. | .callv .. => none

/- Calls. A callee has memory of its own: the blocks that it is handed stand there from 'PB' on, with the generation 0. -/
def PB : Nat := 1000000

def idxOf (ids : List Nat) (b : Nat) : Option Nat :=
  match ids with
  | [] => none
  | k :: l => if k = b then some 0 else (idxOf l b).map (· + 1)

/-- What the callee sees of a cell. 'bor': slices of blocks that it is not handed may be lent. -/
def toR (bor : Bool) (h : Heap) (ids : List Nat) : AR → Option AR
  | .i v => some (.i (v.retag 1))
  | .ptr b g off => match idxOf ids b with
    | some i => if h.cur b = some g then some (.ptr (PB + i) 0 off) else none
    | none => if bor then
        match rd (fun b => (idxOf ids b).isNone) h 1 rdDepth (.r (.ptr b g off)) with
        | some v => some (.i (v.retag 1))
        | none => none
      else none
  | .sl b g off sz len => match idxOf ids b with
    | some i => if h.cur b = some g then some (.sl (PB + i) 0 off sz len) else none
    | none => if bor then
        match rd (fun b => (idxOf ids b).isNone) h 1 rdDepth (.r (.sl b g off sz len)) with
        | some v => some (.i (v.retag 1))
        | none => none
      else none
  | .map b g => match idxOf ids b with
    | some i => if h.cur b = some g then some (.map (PB + i) 0) else none
    | none => none

def toC (bor : Bool) (h : Heap) (ids : List Nat) : AC → Option AC
  | .r a => (toR bor h ids a).map .r
  | .clo f caps => (traverse (toR bor h ids) caps).map (mkClo f)

def to1 (bor : Bool) (h : Heap) (ids : List Nat) : A1 → Option A1
  | .c x => (toC bor h ids x).map .c
  | .agg xs => (traverse (toC bor h ids) xs).map .agg

def toEnt (h : Heap) (ids : List Nat) (e : Ent) : Option Ent :=
  match to1 false h ids e.key, to1 false h ids e.val with
  | some k, some v => some { key := k, val := v, born := e.born }
  | _, _ => none

def toB (h : Heap) (ids : List Nat) : Blk → Option Blk
  | .cells _ cs => (traverse (toC false h ids) cs).map (.cells 0)
  | .map _ es k => (traverse (toEnt h ids) es).map (.map 0 · k)
  | .iter _ l p => some (.iter 0 l p)

/-- Is a slice lent: read out of a block that the callee is not handed? -/
def lentR (ids : List Nat) : AR → Bool
  | .sl b _ _ _ _ => (idxOf ids b).isNone
  | .ptr b _ _ => (idxOf ids b).isNone
  | _ => false
def lentC (ids : List Nat) : AC → Bool
  | .r a => lentR ids a
  | .clo _ caps => caps.any (lentR ids)

/-- The blocks that must be handed over. -/
def refR (give : Bool) : AR → List Nat
  | .ptr b _ _ | .map b _ => [b]
  | .sl b _ _ _ _ => if give then [b] else []
  | _ => []
def refC (give : Bool) : AC → List Nat
  | .r a => refR give a
  | .clo _ caps => caps.flatMap (refR give)
def ddup : List Nat → List Nat
  | [] => []
  | b :: l => let r := ddup l; if r.contains b then r else b :: r
def refsOf (give : List (Nat × Nat)) (args : List A1) : List Nat :=
  ddup (args.zipIdx.flatMap fun (a, i) => a.cells.zipIdx.flatMap fun (x, j) => refC (give.contains (i, j)) x)

/-- What comes back: a place of the callee is one of the caller's, or the slice is read out. 'pl': the places, callee's and caller's, with the caller's generation. -/
def backAt (pl : List (Nat × Nat × Nat)) (b : Nat) : Option (Nat × Nat) :=
  match pl with
  | [] => none
  | (k, c, g) :: l => if k = b then some (c, g) else backAt l b

def backR (h : Heap) (pl : List (Nat × Nat × Nat)) (lent : Bool) : AR → Option AR
  | .i v => if lent && !v.fresh then none else some (.i v)
  | .ptr b g off => match backAt pl b with
    | some (c, g') => if h.cur b = some g then some (.ptr c g' off) else none
    | none => none
  | .sl b g off sz len => match backAt pl b with
    | some (c, g') => if h.cur b = some g then some (.sl c g' off sz len) else none
    | none => match rd (fun b => (backAt pl b).isNone) h 0 rdDepth (.r (.sl b g off sz len)) with
      | some v => if lent && !v.fresh then none else some (.i v)
      | none => none
  | .map b g => match backAt pl b with
    | some (c, g') => if h.cur b = some g then some (.map c g') else none
    | none => none

def backC (h : Heap) (pl : List (Nat × Nat × Nat)) (lent : Bool) : AC → Option AC
  | .r a => (backR h pl lent a).map .r
  | .clo f caps => (traverse (backR h pl lent) caps).map (mkClo f)

def back1 (h : Heap) (pl : List (Nat × Nat × Nat)) (lent : Bool) : A1 → Option A1
  | .c x => (backC h pl lent x).map .c
  | .agg xs => (traverse (backC h pl lent) xs).map .agg

def backEnt (h : Heap) (pl : List (Nat × Nat × Nat)) (lent : Bool) (e : Ent) : Option Ent :=
  match back1 h pl lent e.key, back1 h pl lent e.val with
  | some k, some v => some { key := k, val := v, born := e.born }
  | _, _ => none

def backB (h : Heap) (pl : List (Nat × Nat × Nat)) (lent : Bool) (g : Nat) : Blk → Option Blk
  | .cells _ cs => (traverse (backC h pl lent) cs).map (.cells g)
  | .map _ es k => (traverse (backEnt h pl lent) es).map (.map g · k)
  | .iter _ l p => some (.iter g l p)

/-- The caller's memory behind a call. -/
def backH (h : Heap) (pl : List (Nat × Nat × Nat)) (lent : Bool) : List (Nat × Nat × Nat) → Heap → Option Heap
  | [], hp => some hp
  | (k, c, g) :: l, hp => match h.get k with
    | some b => match backB h pl lent g b with
      | some b' => backH h pl lent l (hp.set c b')
      | none => none
    | none => none

/-- The places behind a call: what was handed over keeps its generation if the callee left it. -/
def placesOf (h hp : Heap) (ct : Nat) (ids : List Nat) (ad : List (Nat × Nat)) : List (Nat × Nat × Nat) :=
  (ids.zipIdx.map fun (b, i) => (PB + i, b, if h.cur (PB + i) = some 0 then (hp.cur b).getD ct else ct)) ++ ad.map fun (k, c) => (k, c, ct)

/-- How a function runs, by itself: its results, its memory, its counter. -/
abbrev Run := Nat → List A1 → List Blk → Option (List A1 × Heap)

def handOver (h : Heap) (ids : List Nat) : Option (List Blk) :=
  traverse (fun b => match h.get b with | some x => toB h ids x | none => none) ids

def resV : List A1 → AV
  | [a] => .v a
  | l => .tup l

def nodupB : List Nat → Bool
  | [] => true
  | a :: l => !l.contains a && nodupB l

/-- The blocks of the callee that the caller takes over. A place from PB on: that of the first result, if it is a slice of the callee's. -/
def adOf (ad : List (Nat × Nat)) (rs : List A1) : List (Nat × Nat) :=
  ad.flatMap fun (k, c) => if k < PB then [(k, c)] else match rs with
    | .c (.r (.sl b _ _ _ _)) :: _ => if b < PB then [(b, c)] else []
    | _ => []

def doCall (R : Run) (s : St) (f : Nat) (args : List A1) (how : How) : Out :=
  if how.pure then
    match traverse (to1 true s.hp []) args with
    | some as => match R f as [] with
      | some (rs, h) => match traverse (back1 h [] (args.any fun a => a.cells.any (lentC []))) rs with
        | some vs => some (resV vs, s.hp, s.ct)
        | none => none
      | none => none
    | none => none
  else
  let ids := refsOf how.give args
  match traverse (to1 true s.hp ids) args, handOver s.hp ids with
  | some as, some bs =>
    match R f as bs with
    | some (rs, h) =>
      let ad := adOf how.ad rs
      let pl := placesOf h s.hp s.ct ids ad
      let lent := args.any fun a => a.cells.any (lentC ids)
      if nodupB ids && ad.all (fun p => decide (p.1 < PB) && (s.hp.get p.2).isNone) && nodupB (ad.map (·.1)) && nodupB (ad.map (·.2)) then
        match traverse (back1 h pl lent) rs, backH h pl lent pl s.hp with
        | some vs, some hp => some (resV vs, hp, s.ct + 1)
        | _, _ => none
      else none
    | none => none
  | _, _ => none

def evals (s : St) (l : List Opd) : Option (List A1) := traverse (fun o => (ev s o).one) l

def IV.ac : IV → AC := I

def opK (G : Nat → List IV) (R : Run) (s : St) (d : Nat) : K → Out
  | .call f args how => match evals s args with
    | some as => doCall R s f as how
    | none => none
  | .callv x args how => match evals s args, ev s x with
    | some as, .v (.c (.r (.i (.clo f caps)))) => doCall R s f (as ++ caps.map fun v => .c (I v)) how
    | some as, .v (.c (.clo f caps)) => doCall R s f (as ++ caps.map fun v => .c (.r v)) how
    | _, _ => none
  | k => step G s d k

/-- Does an operation run? -/
def want (s : St) : Option (Nat × Bool) → Option Bool
  | none => some true
  | some (t, b) => match s.get t with
    | .v (.c (.r (.i (.bool c)))) => some (c == b)
    | .skp => some false
    | _ => none

/-- The blocks that a value leads to. -/
def refDeep (h : Heap) : Nat → List Nat → List Nat
  | 0, l => l
  | n + 1, l => l ++ refDeep h n (l.flatMap fun b => match h.get b with
      | some (.cells _ cs) => cs.flatMap (refC true)
      | _ => [])

def delAll (h : Heap) : List Nat → Heap
  | [] => h
  | b :: l => delAll (h.del b) l

/-- What an operation with its guard gives: the value, the memory. -/
def insV (G : Nat → List IV) (R : Run) (s : St) (d : Option Nat) (g : Option (Nat × Bool)) (k : K) : Out :=
  match want s g with
  | some true => opK G R s (d.getD 0) k
  | some false => some (.skp, s.hp, s.ct)
  | none => none

def St.with (s : St) (d : Option Nat) (r : AV × Heap × Nat) : St := { s with hp := r.2.1, ct := r.2.2 }.put d r.1

def insI (G : Nat → List IV) (R : Run) (s : St) : Ins → Option St
  | .kill ts bs => some { s with tm := ts.foldl (fun l t => l.set t .und) s.tm, hp := delAll s.hp bs }
  | .frz t => match s.get t with
    | .v a =>
      let bs := (refDeep s.hp 3 (a.cells.flatMap (refC true))).filter (fun b => decide (b < PB))
      match traverse (rd (fun b => bs.contains b) s.hp 0 rdDepth) a.cells, a with
      | some vs, .agg _ => some { s with tm := s.tm.set t (.v (.agg (vs.map I))), hp := delAll s.hp bs }
      | some [v], .c _ => some { s with tm := s.tm.set t (V v), hp := delAll s.hp bs }
      | _, _ => none
    | _ => none
  | .op d g k => match insV G R s d g k with
    | some r => some (s.with d r)
    | none => none

def insL (G : Nat → List IV) (R : Run) : List Ins → St → Option St
  | [], s => some s
  | i :: l, s => match insI G R s i with
    | some s => insL G R l s
    | none => none

/- A region that draws its order. 'pre': for each operation those that are before it, whatever the order. -/
def opdT : Opd → List Nat
  | .t n => [n]
  | _ => []
def optT : Option Opd → List Nat
  | some x => opdT x
  | none => []
/-- The slots that an operation reads. -/
def K.reads : K → List Nat
  | .mov x | .fld _ _ _ x | .un _ x | .cvI _ x | .cvIS x | .cvSS x | .cvBS x | .cvSB x | .box _ x | .load _ _ x | .nilchk x | .fadr _ x | .len _ x | .ext x _ | .rng x | .nxt x | .gsto _ x => opdT x
  | .galloc _ t => [t]
  | .pick a b c => opdT a ++ opdT b ++ opdT c
  | .idx _ _ _ x i | .idxS x i | .bin _ x i | .eqB _ x i | .eqN _ _ x i | .eqv _ _ x i | .store _ x i | .iadr _ x i | .iadrA _ _ x i | .mksl _ _ _ x i | .lkp _ _ _ _ x i | .ment _ _ _ x i | .app _ _ _ x i | .appZ _ _ _ x i | .copy _ _ x i | .del _ x i => opdT x ++ opdT i
  | .alloc _ | .mkmap | .lenA _ => []
  | .build _ _ ps | .bsl _ _ _ ps _ => ps.flatMap fun p => opdT p.2
  | .slcS x lo hi => opdT x ++ optT lo ++ optT hi
  | .slc _ x lo hi m3 => opdT x ++ optT lo ++ optT hi ++ optT m3
  | .slcA _ _ x lo hi => opdT x ++ optT lo ++ optT hi
  | .mupd _ m k v | .ests m k v => opdT m ++ opdT k ++ opdT v
  | .mkfn _ l | .mx l | .mn l | .call _ l _ => l.flatMap opdT
  | .callv x l _ => opdT x ++ l.flatMap opdT

/-- Does it turn memory? -/
def K.turns : K → Bool
  | .store .. | .app .. | .appZ .. | .copy .. | .alloc .. | .box .. | .mksl .. | .mkmap | .mupd .. | .ment .. | .ests .. | .del .. | .cvSB .. | .rng .. | .nxt .. => true
  | .bsl _ _ _ _ own => own
  | .call _ _ how | .callv _ _ how => !how.pure
  | _ => false

def Ins.reads : Ins → List Nat
  | .op _ g k => (match g with | some (t, _) => [t] | none => []) ++ k.reads
  | _ => []
def Ins.dst : Ins → Option Nat
  | .op d _ _ => d
  | _ => none
def Ins.turns : Ins → Bool
  | .op _ _ k => k.turns
  | _ => false
def Ins.isOp : Ins → Bool
  | .op .. => true
  | _ => false

/-- Is j surely before i? -/
def preHas (pre : List (List Nat)) (i j : Nat) : Bool := match pre[i]? with | some p => p.contains j | none => false
/-- What stands between two operations: each writes a slot of its own; who reads a slot that another one writes stands before or behind it; of two that turn memory one is before the other. -/
def pairOk (l : List Ins) (pre : List (List Nat)) (i j : Nat) : Bool :=
  match l[i]?, l[j]? with
  | some x, some y =>
    (x.dst.isNone || x.dst != y.dst) && (preHas pre i j || preHas pre j i || ((match x.dst with | some d => !y.reads.contains d | none => true) && (match y.dst with | some d => !x.reads.contains d | none => true) && !(x.turns && y.turns)))
  | _, _ => false

def drawStatic (l : List Ins) (pre : List (List Nat)) : Bool :=
  l.all Ins.isOp && pre.length == l.length && ((List.range l.length).all fun i => (List.range i).all fun j => pairOk l pre i j) && (pre.zipIdx.all fun (p, i) => p.all fun j => decide (j < i))

mutual
def eqIV : IV → IV → Bool
  | .bool a, .bool b => a == b
  | .int k a, .int k' b => decide (k = k') && decide (a = b)
  | .str a, .str b => decide (a = b)
  | .nilS, .nilS | .emp, .emp | .nilP, .nilP | .nilM, .nilM | .nilF, .nilF | .nilI, .nilI => true
  | .lit t a n, .lit t' b m => t == t' && eqIVs a b && n == m
  | .lp t a, .lp t' b => t == t' && eqIVs a b
  | .gp g o, .gp g' o' => g == g' && o == o'
  | .clo f a, .clo f' b => f == f' && eqIVs a b
  | _, _ => false
def eqIVs : List IV → List IV → Bool
  | [], [] => true
  | x :: l, y :: m => eqIV x y && eqIVs l m
  | _, _ => false
end
def eqAR : AR → AR → Bool
  | .i a, .i b => eqIV a b
  | .ptr b g o, .ptr b' g' o' => b == b' && g == g' && o == o'
  | .sl b g o z n, .sl b' g' o' z' n' => b == b' && g == g' && o == o' && z == z' && n == n'
  | .map b g, .map b' g' => b == b' && g == g'
  | _, _ => false
def eqL {α : Type} (f : α → α → Bool) : List α → List α → Bool
  | [], [] => true
  | x :: l, y :: m => f x y && eqL f l m
  | _, _ => false
def eqAC : AC → AC → Bool
  | .r a, .r b => eqAR a b
  | .clo f a, .clo f' b => f == f' && eqL eqAR a b
  | _, _ => false
def eqA1 : A1 → A1 → Bool
  | .c a, .c b => eqAC a b
  | .agg a, .agg b => eqL eqAC a b
  | _, _ => false
def eqAV : AV → AV → Bool
  | .und, .und | .skp, .skp => true
  | .v a, .v b => eqA1 a b
  | .tup a, .tup b => eqL eqA1 a b
  | _, _ => false

def turnAt (l : List Ins) (j : Nat) : Bool := match l[j]? with | some x => x.turns | none => false
def cntS (l : List Ins) (S : Nat → Bool) : Nat := (List.range l.length).countP fun j => S j && turnAt l j
/-- How many operations that turn memory are surely before, and at most before, operation i. -/
def loOf (l : List Ins) (pre : List (List Nat)) (i : Nat) : Nat := cntS l (preHas pre i)
def hiOf (l : List Ins) (pre : List (List Nat)) (i : Nat) : Nat := cntS l fun j => !preHas pre j i

/-- The memories that a run comes through, one behind each operation that turns memory, and the states before each operation. -/
def trail (G : Nat → List IV) (R : Run) : List Ins → St → Option (List St × List (Heap × Nat))
  | [], s => some ([s], [(s.hp, s.ct)])
  | x :: l, s => match insI G R s x with
    | some s' => match trail G R l s' with
      | some (ss, hs) => some (s :: ss, if x.turns then (s.hp, s.ct) :: hs else hs)
      | none => none
    | none => none

/-- At each memory that it may meet an operation answers the same. -/
def stableAt (G : Nat → List IV) (R : Run) (x : Ins) (s : St) (h : Heap × Nat) : Bool :=
  match x with
  | .op d g k => match insV G R s d g k, insV G R { s with hp := h.1, ct := h.2 } d g k with
    | some r, some r' => eqAV r'.1 r.1
    | _, _ => false
  | _ => false

def drawDyn (G : Nat → List IV) (R : Run) (l : List Ins) (pre : List (List Nat)) (ss : List St) (hs : List (Heap × Nat)) : Bool :=
  (List.range l.length).all fun i => match l[i]?, ss[i]? with
    | some x, some s => x.turns || (let lo := loOf l pre i; let hi := hiOf l pre i
      lo == hi || (List.range (hi + 1 - lo)).all fun c => match hs[lo + c]? with | some h => stableAt G R x s h | none => false)
    | _, _ => false

/-- Rounds of a loop. -/
def loopN (f : St → Option (Ex × St)) : Nat → St → Option (Ex × St)
  | 0, _ => none
  | n + 1, s => match f s with
    | some (.normal, s) => loopN f n s
    | r => r

/-- The run of code: 'n' bounds the rounds. -/
def exec (G : Nat → List IV) (R : Run) (n : Nat) : IR → St → Option (Ex × St)
  | .skip, s => some (.normal, s)
  | .reg l, s => match insL G R l s with
    | some s => some (.normal, s)
    | none => none
  | .regD l pre, s => match trail G R l s with
    | some (ss, hs) => if drawDyn G R l pre ss hs then match ss.getLast? with
      | some s' => some (.normal, s')
      | none => none
      else none
    | none => none
  | .ghost l a, s => match insL G R l s with
    | some s => exec G R n a s
    | none => none
  | .seq a b, s => match exec G R n a s with
    | some (.normal, s) => exec G R n b s
    | r => r
  | .cond x a b, s => match (ev s x).bool with
    | some true => exec G R n a s
    | some false => exec G R n b s
    | none => none
  | .block id a, s => match exec G R n a s with
    | some (.exit i, s) => some (if i = id then .normal else .exit i, s)
    | r => r
  | .loop a, s => loopN (exec G R n a) n s
  | .exit id, s => some (.exit id, s)
  | .ret, s => some (.ret, s)

/-- The cells of a result. -/
def readRes (s : St) : Res → Option A1
  | .tmp t => (s.get t).one
  | .cell t n agg => match s.get t with
    | .v (.c (.r (.ptr b g off))) => match s.hp.row b g with
      | some cs => match takeN n (cs.drop off) with
        | some cs => mk1 agg cs
        | none => none
      | none => none
    | _ => none

def start (fn : Fn) (args : List A1) (bs : List Blk) : St :=
  { tm := args.map .v ++ List.replicate (fn.nt - args.length) .und, hp := bs.zipIdx.map fun (b, i) => (PB + i, b), ct := 1 }

/-- A function's run: 'd' bounds the depth of calls, 'n' the rounds. 'X': what is told of functions without a body. -/
def run (G : Nat → List IV) (F : Nat → Option Fn) (X : Run) (n : Nat) : Nat → Run
  | 0, _, _, _ => none
  | d + 1, f, args, bs => match F f with
    | none => X f args bs
    | some fn => match exec G (run G F X n d) n fn.body (start fn args bs) with
      | some (.exit _, _) => none
      | some (_, s) => match traverse (readRes s) fn.res with
        | some rs => some (rs, s.hp)
        | none => none
      | none => none

end Go.Abs
