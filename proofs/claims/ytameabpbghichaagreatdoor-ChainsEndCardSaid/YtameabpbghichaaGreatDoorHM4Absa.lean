/-
  The abstract machine: values, memory with fixed places, a small code; its run is a computation without order, capacity or tape. What it computes, Go's model computes too (AbsD, AbsE).
-/
import GoSem.Core.Code
import GoSem.Core.View
import GoSem.Core.Utf8
import GoSem.Op.String
import Derived.WalkKit
import Derived.Deep.AppendSrc
import Derived.Laws.BytesString
import Derived.Laws.IdiomCopy
import Derived.Room.Entries
import Derived.Laws.MakeOwn
import Derived.Laws.BytesArg
import Derived.Lib.ConvBytes
namespace Go.Abs
inductive IV where
  |bool (b:Bool)
  |int (k:IntKind) (n:Int)
  |str (s:List UInt8)
  |nilS
  |emp
  |lit (t:Nat) (cells:List IV) (len:Nat)
  |lp (t:Nat) (cells:List IV)
  |nilP
  |gp (g off:Nat)
  |nilM
  |nilF
  |clo (f:Nat) (caps:List IV)
  |nilI
  deriving Inhabited
inductive AR where
  |i (v:IV)
  |ptr (b g off:Nat)
  |sl (b g off sz len:Nat)
  |map (b g:Nat)
  deriving Inhabited
inductive AC where
  |r (a:AR)
  |clo (f:Nat) (caps:List AR)
  deriving Inhabited
inductive A1 where
  |c (x:AC)
  |agg (xs:List AC)
  deriving Inhabited
inductive AV where
  |und
  |skp
  |v (a:A1)
  |tup (l:List A1)
  deriving Inhabited
abbrev I(v:IV):AC:=.r (.i v)
abbrev V(v:IV):AV:=.v (.c (.r (.i v)))
structure Ent where
  key:A1
  val:A1
  born:Nat
  deriving Inhabited
inductive Blk where
  |cells (g:Nat) (cs:List AC)
  |map (g:Nat) (es:List Ent) (clock:Nat)
  |iter (g:Nat) (s:List UInt8) (pos:Nat)
  deriving Inhabited
def Blk.gen:Blk→Nat
  |.cells g _|.map g _ _|.iter g _ _=>g
abbrev Heap:=List (Nat×Blk)
def Heap.get:Heap→Nat→Option Blk
  |[],_=>none
  |(k,x)::h,b=>if k=b then some x else Heap.get h b
def Heap.set:Heap→Nat→Blk→Heap
  |[],b,y=>[(b,y)]
  |(k,x)::h,b,y=>if k=b then (k,y)::h else (k,x)::Heap.set h b y
def Heap.del:Heap→Nat→Heap
  |[],_=>[]
  |(k,x)::h,b=>if k=b then Heap.del h b else (k,x)::Heap.del h b
structure St where
  tm:List AV
  hp:Heap
  ct:Nat
  deriving Inhabited
mutual
def IV.retag(t:Nat):IV→IV
  |.lit _ cs n=>.lit t (IV.retags t cs) n
  |.lp _ cs=>.lp t (IV.retags t cs)
  |.clo f cs=>.clo f (IV.retags t cs)
  |v=>v
def IV.retags(t:Nat):List IV→List IV
  |[]=>[]
  |v::l=>v.retag t::IV.retags t l
end
mutual
def IV.fresh:IV→Bool
  |.lit t cs _=>t==0&&IV.freshs cs
  |.lp t cs=>t==0&&IV.freshs cs
  |.clo _ cs=>IV.freshs cs
  |_=>true
def IV.freshs:List IV→Bool
  |[]=>true
  |v::l=>v.fresh&&IV.freshs l
end
def Heap.cur(h:Heap)(b:Nat):Option Nat:=(h.get b).map Blk.gen
def Heap.row(h:Heap)(b g:Nat):Option (List AC) :=
  match h.get b with
  |some (.cells g' cs)=>if g'=g then some cs else none
  |_=>none
def Heap.mapAt(h:Heap)(b g:Nat):Option (List Ent×Nat) :=
  match h.get b with
  |some (.map g' es k)=>if g'=g then some (es,k) else none
  |_=>none
def inlR:AR→Option IV
  |.i v=>some v
  |_=>none
def traverse{α β:Type}(f:α→Option β):List α→Option (List β)
  |[]=>some []
  |a::l=>match f a with
    |none=>none
    |some b=>match traverse f l with
      |none=>none
      |some bs=>some (b::bs)
def rd(q:Nat→Bool)(h:Heap)(t:Nat):Nat→AC→Option IV
  |_,.r (.i v)=>some v
  |n+1,.r (.sl b g off sz len) =>
    if q b then
      match h.row b g with
      |none=>none
      |some cs =>
        if off+len*sz≤cs.length then
          match traverse (rd q h t n) ((cs.drop off).take (len*sz)) with
          |none=>none
          |some vs=>some (.lit t vs len)
        else none
    else none
  |n+1,.r (.ptr b g off) =>
    if q b then
      match h.row b g with
      |none=>none
      |some cs=>match traverse (rd q h t n) (cs.drop off) with
        |none=>none
        |some vs=>some (.lp t vs)
    else none
  |_+1,.clo f caps =>
    match traverse inlR caps with
    |none=>none
    |some vs=>some (.clo f vs)
  |_,_=>none
def rdDepth:Nat:=6
/- The code. -/
inductive Opd where
  |t (n:Nat)
  |c (v:IV)
  |ca (l:List IV)
  deriving Inhabited
structure How where
  give:List (Nat×Nat)
  ad:List (Nat×Nat)
  pure:Bool
  deep:Bool:=false
  deriving Inhabited
inductive K where
  |mov (x:Opd)
  |pick (c a b:Opd)
  |fld (off n:Nat) (agg:Bool) (x:Opd)
  |idx (len sz:Nat) (agg:Bool) (x i:Opd)
  |idxS (x i:Opd)
  |bin (op:BinOp) (x y:Opd)
  |eqB (neg:Bool) (x y:Opd)
  |eqN (neg:Bool) (ty:Nat) (x y:Opd)
  |eqv (neg:Bool) (ks:List Nat) (x y:Opd)
  |un (op:UnOp) (x:Opd)
  |cvI (k:IntKind) (x:Opd)
  |cvIS (x:Opd)
  |cvSS (x:Opd)
  |cvBS (x:Opd)
  |cvSB (x:Opd)
  |alloc (cs:List IV)
  |box (n:Nat) (x:Opd)
  |build (zero:List IV) (places:List (Nat×Nat)) (parts:List (Nat×Opd))
  |bsl (sz len:Nat) (zero:List IV) (parts:List (Nat×Opd)) (own:Bool)
  |load (n:Nat) (agg:Bool) (a:Opd)
  |store (n:Nat) (a x:Opd)
  |nilchk (x:Opd)
  |fadr (off:Nat) (a:Opd)
  |iadr (sz:Nat) (x i:Opd)
  |iadrA (len sz:Nat) (x i:Opd)
  |slcS (x:Opd) (lo hi:Option Opd)
  |slc (sz:Nat) (x:Opd) (lo hi mx:Option Opd)
  |slcA (len sz:Nat) (x:Opd) (lo hi:Option Opd)
  |mksl (sz bytes:Nat) (zero:List IV) (l c:Opd)
  |mkmap
  |lkp (kt:Nat) (zero:List IV) (agg:Bool) (ok:Bool) (m k:Opd)
  |mupd (kt:Nat) (m k v:Opd)
  |ment (kt:Nat) (zero:List IV) (agg:Bool) (m k:Opd)
  |ests (m s v:Opd)
  |mkfn (f:Nat) (caps:List Opd)
  |len (ty:Nat) (x:Opd)
  |lenA (n:Nat)
  |mx (l:List Opd)
  |mn (l:List Opd)
  |app (sz bytes:Nat) (str:Bool) (x y:Opd)
  |appZ (sz bytes:Nat) (zero:List IV) (x n:Opd)
  |copy (sz:Nat) (str:Bool) (x y:Opd)
  |del (kt:Nat) (m k:Opd)
  |ext (x:Opd) (n:Nat)
  |call (f:Nat) (args:List Opd) (how:How)
  |callv (x:Opd) (args:List Opd) (how:How)
  |rng (x:Opd)
  |nxt (x:Opd)
  |galloc (n t:Nat)
  |gsto (n:Nat) (x:Opd)
  |clr (sz:Nat) (zero:List IV) (x:Opd)
  deriving Inhabited
inductive Ins where
  |kill (ts:List Nat) (bs:List Nat)
  |frz (t:Nat)
  |op (dst:Option Nat) (guard:Option (Nat×Bool)) (k:K)
  deriving Inhabited
inductive IR where
  |skip
  |reg (l:List Ins)
  |regD (l:List Ins) (pre:List (List Nat))
  |ghost (l:List Ins) (a:IR)
  |seq (a b:IR)
  |cond (x:Opd) (a b:IR)
  |block (id:Nat) (a:IR)
  |loop (a:IR)
  |exit (id:Nat)
  |ret
  deriving Inhabited
inductive Res where
  |tmp (t:Nat)
  |cell (t n:Nat) (agg:Bool)
  deriving Inhabited
structure Fn where
  nt:Nat
  res:List Res
  body:IR
  deriving Inhabited
inductive Ex where
  |normal|exit (id:Nat)|ret
  deriving DecidableEq,Inhabited
def St.get(s:St)(t:Nat):AV:=s.tm.getD t .und
def St.put(s:St)(d:Option Nat)(v:AV):St :=
  match d with
  |some d=>{s with tm:=s.tm.set d v}
  |none=>s
def ev(s:St):Opd→AV
  |.t n=>s.get n
  |.c v=>V v
  |.ca l=>.v (.agg (l.map I))
def AV.one:AV→Option A1
  |.v a=>some a
  |_=>none
def A1.cells:A1→List AC
  |.c x=>[x]
  |.agg xs=>xs
def mk1(agg:Bool)(cs:List AC):Option A1 :=
  if agg then some (.agg cs) else match cs with|[x]=>some (.c x)|_=>none
def AV.int:AV→Option (IntKind×Int)
  |.v (.c (.r (.i (.int k n))))=>some (k,n)
  |_=>none
def AV.nat(v:AV):Option Nat :=
  match v.int with
  |some (_,n)=>if 0≤n then some n.toNat else none
  |none=>none
def AV.bool:AV→Option Bool
  |.v (.c (.r (.i (.bool b))))=>some b
  |_=>none
def AV.strv:AV→Option (List UInt8)
  |.v (.c (.r (.i (.str s))))=>some s
  |_=>none
def intBin(op:BinOp)(k:IntKind)(a b:Int):Option IV :=
  match op with
  |.add=>some (.int k (k.wrap (a+b)))
  |.sub=>some (.int k (k.wrap (a-b)))
  |.mul=>some (.int k (k.wrap (a*b)))
  |.quo=>if b=0 then none else some (.int k (k.wrap (a.tdiv b)))
  |.rem=>if b=0 then none else some (.int k (a.tmod b))
  |.and=>some (.int k (k.wrap (BitVec.ofInt k.bits a &&& BitVec.ofInt k.bits b).toNat))
  |.or=>some (.int k (k.wrap (BitVec.ofInt k.bits a ||| BitVec.ofInt k.bits b).toNat))
  |.xor=>some (.int k (k.wrap (BitVec.ofInt k.bits a ^^^ BitVec.ofInt k.bits b).toNat))
  |.andNot=>some (.int k (k.wrap (BitVec.ofInt k.bits a &&& ~~~(BitVec.ofInt k.bits b)).toNat))
  |.eql=>some (.bool (a==b))
  |.neq=>some (.bool (a != b))
  |.lss=>some (.bool (a<b))
  |.leq=>some (.bool (a≤b))
  |.gtr=>some (.bool (a > b))
  |.geq=>some (.bool (a ≥ b))
  |_=>none
def shiftBin(op:BinOp)(k:IntKind)(a b:Int):Option IV :=
  if b<0 then none else
  match op with
  |.shl=>some (.int k (k.wrap (a*2 ^ (min b.toNat k.bits))))
  |.shr=>some (.int k (a.fdiv (2 ^ (min b.toNat k.bits))))
  |_=>none
def strBin(op:BinOp)(x y:List UInt8):Option IV :=
  match op with
  |.add=>if x.length+y.length≤4611686018427387904 then some (.str (x++y)) else none
  |.eql=>some (.bool (x==y))
  |.neq=>some (.bool (!(x==y)))
  |.lss=>some (.bool (Op.bytesLess x y))
  |.leq=>some (.bool (Op.bytesLess x y||x==y))
  |.gtr=>some (.bool (!(Op.bytesLess x y||x==y)))
  |.geq=>some (.bool (!Op.bytesLess x y))
  |_=>none
def isNil(h:Heap)(ty:Nat):AC→Option Bool
  |.r (.i .nilP)=>if ty=0 then some true else none
  |.r (.i .nilS)=>if ty=1 then some true else none
  |.r (.i .nilM)=>if ty=2 then some true else none
  |.r (.i .nilF)=>if ty=3 then some true else none
  |.r (.i (.lp ..))=>if ty=0 then some false else none
  |.r (.i (.gp ..))=>if ty=0 then some false else none
  |.r (.i .emp)=>if ty=1 then some false else none
  |.r (.i (.lit ..))=>if ty=1 then some false else none
  |.r (.i (.clo ..))=>if ty=3 then some false else none
  |.r (.ptr b g _)=>if ty=0∧h.cur b=some g then some false else none
  |.r (.sl b g _ _ _)=>if ty=1∧h.cur b=some g then some false else none
  |.r (.map b g)=>if ty=2∧h.cur b=some g then some false else none
  |.clo ..=>if ty=3 then some false else none
  |_=>none
def binV(op:BinOp)(x y:AV):Option IV :=
  match x,y with
  |.v (.c (.r (.i (.int k a)))),.v (.c (.r (.i (.int k' b)))) =>
    match op with
    |.shl|.shr=>shiftBin op k a b
    |_=>if k=k' then intBin op k a b else none
  |.v (.c (.r (.i (.str a)))),.v (.c (.r (.i (.str b))))=>strBin op a b
  |_,_=>none
def eqCell:AC→AC→Option Bool
  |.r (.i (.int k a)),.r (.i (.int k' b))=>if k=k' then some (a==b) else none
  |.r (.i (.str a)),.r (.i (.str b))=>some (a==b)
  |.r (.i (.bool a)),.r (.i (.bool b))=>some (a==b)
  |_,_=>none
def eqCellK:Nat→AC→AC→Option Bool
  |0,.r (.i (.int k a)),.r (.i (.int k' b))=>if k=k' then some (a==b) else none
  |1,.r (.i (.str a)),.r (.i (.str b))=>some (a==b)
  |2,.r (.i (.bool a)),.r (.i (.bool b))=>some (a==b)
  |_,_,_=>none
def eqCellsK:List Nat→List AC→List AC→Option Bool
  |[],[],[]=>some true
  |k::ks,x::xs,y::ys=>match eqCellK k x y,eqCellsK ks xs ys with
    |some a,some b=>some (a&&b)
    |_,_=>none
  |_,_,_=>none
def lookAt(G:Nat→List IV)(h:Heap):AC→Option (List AC)
  |.r (.i (.lp _ cs))=>some (cs.map I)
  |.r (.i (.gp g off))=>some ((G g).drop off |>.map I)
  |.r (.ptr b g off) =>
    match h.row b g with
    |some cs=>some (cs.drop off)
    |none=>none
  |_=>none
def takeN(n:Nat)(cs:List AC):Option (List AC):=if n≤cs.length then some (cs.take n) else none
def lay(cs:List AC)(off:Nat)(new:List AC):List AC:=cs.take off++new++cs.drop (off+new.length)
def fillP(places:List (Nat×Nat))(cells:List AC):List (Nat×A1)→Option (List AC)
  |[]=>some cells
  |(i,v)::rest =>
    match places[i]? with
    |none=>none
    |some (off,n) =>
      if v.cells.length=n∧off+n≤cells.length then fillP places (lay cells off v.cells) rest else none
def fillS(sz:Nat)(cells:List AC):List (Nat×A1)→Option (List AC)
  |[]=>some cells
  |(i,v)::rest =>
    if v.cells.length=sz∧i*sz+sz≤cells.length then fillS sz (lay cells (i*sz) v.cells) rest else none
def repC(n:Nat)(zero:List IV):List AC :=
  match n with
  |0=>[]
  |n+1=>zero.map I++repC n zero
def slCells(h:Heap)(sz:Nat):AC→Option (List AC×Nat)
  |.r (.i .nilS)|.r (.i .emp)=>some ([],0)
  |.r (.i (.lit _ cs n))=>if cs.length=n*sz then some (cs.map I,n) else none
  |.r (.sl b g off sz' n) =>
    if sz'=sz then
      match h.row b g with
      |some cs=>if off+n*sz≤cs.length then some ((cs.drop off).take (n*sz),n) else none
      |none=>none
    else none
  |.r (.i (.str s))=>if sz=1 then some (s.map fun c=>I (.int .u8 c.toNat),s.length) else none
  |_=>none
def isStrC:AC→Bool
  |.r (.i (.str _))=>true
  |_=>false
def bound(d:Nat)(s:St)(o:Option Opd):Option Nat :=
  match o with
  |none=>some d
  |some x=>(ev s x).nat
def ksN:Nat→Nat→List Nat
  |0,_=>[]
  |f+1,n=>if n=0 then [] else (n % 4-1)::ksN f (n / 4)
def ksOf(kt:Nat):List Nat:=ksN 16 (kt-3)
def plainKey(kt:Nat):AV→Option A1
  |.v (.c (.r (.i (.int k n))))=>if kt=0 then some (.c (.r (.i (.int k n)))) else none
  |.v (.c (.r (.i (.str x))))=>if kt=1 then some (.c (.r (.i (.str x)))) else none
  |.v (.c (.r (.i (.bool x))))=>if kt=2 then some (.c (.r (.i (.bool x)))) else none
  |.v (.agg xs)=>if 3≤kt∧eqCellsK (ksOf kt) xs xs=some true then some (.agg xs) else none
  |_=>none
def kindC:AC→Nat
  |.r (.i (.int ..))=>0
  |.r (.i (.str _))=>1
  |.r (.i (.bool _))=>2
  |_=>9
def eqKey:A1→A1→Option Bool
  |.c x,.c y=>eqCell x y
  |.agg xs,.agg ys=>eqCellsK (xs.map kindC) xs ys
  |_,_=>none
def findEnt(k:A1):List Ent→Option (Option A1)
  |[]=>some none
  |e::es =>
    match eqKey k e.key with
    |some true=>some (some e.val)
    |some false=>findEnt k es
    |none=>none
def setEnt(k:A1)(v:A1):List Ent→List Ent
  |[]=>[]
  |e::es=>match eqKey k e.key with
    |some true=>{e with key:=k,val:=v}::es
    |_=>e::setEnt k v es
def setBorn(n:Nat)(v:A1):List Ent→Option (List Ent)
  |[]=>none
  |e::es=>if e.born=n then some ({e with val:=v}::es) else (setBorn n v es).map (e::·)
def delEnt(k:A1):List Ent→List Ent
  |[]=>[]
  |e::es=>match eqKey k e.key with
    |some true=>es
    |_=>e::delEnt k es
def maxI:AV→AV→Option AV
  |.v (.c (.r (.i (.int k x)))),.v (.c (.r (.i (.int k' y))))=>if k=k' then some (V (.int k (if y > x then y else x))) else none
  |_,_=>none
def minI:AV→AV→Option AV
  |.v (.c (.r (.i (.int k x)))),.v (.c (.r (.i (.int k' y))))=>if k=k' then some (V (.int k (if y<x then y else x))) else none
  |_,_=>none
def foldV(f:AV→AV→Option AV):AV→List AV→Option AV
  |x,[]=>some x
  |x,y::l=>match f x y with|some z=>foldV f z l|none=>none
abbrev Out:=Option (AV×Heap×Nat)
def okv(s:St)(v:Option IV):Out:=v.map fun v=>(V v,s.hp,s.ct)
def ok1(s:St)(v:Option A1):Out:=v.map fun v=>(.v v,s.hp,s.ct)
def capOf:AC→Option AR
  |.r a=>some a
  |.clo f caps=>(traverse inlR caps).map fun vs=>.i (.clo f vs)
def mkClo(f:Nat)(caps:List AR):AC :=
  match traverse inlR caps with
  |some vs=>.r (.i (.clo f vs))
  |none=>.clo f caps
def utf8Next(s:List UInt8)(pos:Nat):Nat×Nat:=Utf8.decode ⟨s.toArray⟩ pos
def byteOf:AC→Option UInt8
  |.r (.i (.int .u8 n))=>some (UInt8.ofNat n.toNat)
  |_=>none
def appTo(s:St)(d sz bytes:Nat)(a:AC)(new:List AC)(n:Nat):Out :=
  match a with
  |.r (.i .nilS) =>
    if n=0 then some (V .nilS,s.hp,s.ct)
    else if n*bytes≤17592186044416∧n≤17592186044416 then some (.v (.c (.r (.sl d s.ct 0 sz n))),s.hp.set d (.cells s.ct new),s.ct+1) else none
  |.r (.i .emp) =>
    if n=0 then some (V .emp,s.hp,s.ct)
    else if n*bytes≤17592186044416∧n≤17592186044416 then some (.v (.c (.r (.sl d s.ct 0 sz n))),s.hp.set d (.cells s.ct new),s.ct+1) else none
  |.r (.sl b g off sz' len) =>
    match s.hp.row b g with
    |some cs=>if sz'=sz∧off+len*sz≤cs.length∧(len+n)*bytes≤17592186044416∧len+n≤17592186044416 then
        some (.v (.c (.r (.sl b s.ct off sz (len+n)))),s.hp.set b (.cells s.ct (cs.take (off+len*sz)++new)),s.ct+1) else none
    |none=>none
  |_=>none
def cellI:AC→Option IV
  |.r (.i v)=>some v
  |_=>none
def step(G:Nat→List IV)(s:St)(d:Nat):K→Out
  |.mov x=>match ev s x with
    |.und=>none
    |.skp=>none
    |v=>some (v,s.hp,s.ct)
  |.pick c a b=>match (ev s c).bool with
    |some true=>some (ev s a,s.hp,s.ct)
    |some false=>some (ev s b,s.hp,s.ct)
    |none=>none
  |.fld off n agg x=>match ev s x with
    |.v (.agg xs)=>match takeN n (xs.drop off) with
      |some cs=>ok1 s (mk1 agg cs)
      |none=>none
    |_=>none
  |.idx len sz agg x i=>match ev s x,(ev s i).nat with
    |.v (.agg xs),some i=>if i<len then match takeN sz (xs.drop (i*sz)) with
        |some cs=>ok1 s (mk1 agg cs)
        |none=>none
      else none
    |_,_=>none
  |.idxS x i=>match (ev s x).strv,(ev s i).nat with
    |some l,some i=>match l[i]? with
      |some c=>okv s (some (.int .u8 c.toNat))
      |none=>none
    |_,_=>none
  |.bin op x y=>okv s (binV op (ev s x) (ev s y))
  |.eqB neg x y=>match (ev s x).bool,(ev s y).bool with
    |some a,some b=>okv s (some (.bool (if neg then !(a==b) else a==b)))
    |_,_=>none
  |.eqN neg ty x y=>match ev s x,ev s y with
    |.v (.c a),.v (.c b)=>match isNil s.hp ty a,isNil s.hp ty b with
      |some a,some b=>if a||b then okv s (some (.bool (if neg then !(a==b) else a==b))) else none
      |_,_=>none
    |_,_=>none
  |.eqv neg ks x y=>match ev s x,ev s y with
    |.v (.agg xs),.v (.agg ys)=>okv s ((eqCellsK ks xs ys).map fun b=>.bool (if neg then !b else b))
    |_,_=>none
  |.un op x=>match op,ev s x with
    |.neg,.v (.c (.r (.i (.int k n))))=>okv s (some (.int k (k.wrap (0-n))))
    |.xor,.v (.c (.r (.i (.int k n))))=>okv s (intBin .xor k (if k.signed then -1 else k.max) n)
    |.not,.v (.c (.r (.i (.bool b))))=>okv s (some (.bool !b))
    |_,_=>none
  |.cvI k x=>match (ev s x).int with
    |some (_,n)=>okv s (some (.int k (k.wrap n)))
    |none=>none
  |.cvIS x=>match (ev s x).int with
    |some (_,n)=>okv s (some (.str (Utf8.encode n).data.toList))
    |none=>none
  |.cvSS x=>match (ev s x).strv with
    |some l=>okv s (some (.str l))
    |none=>none
  |.cvBS x=>match ev s x with
    |.v (.c a)=>match if isStrC a then none else slCells s.hp 1 a with
      |some (cs,_)=>okv s ((traverse byteOf cs).map .str)
      |none=>none
    |_=>none
  |.cvSB x=>match (ev s x).strv with
    |some l=>if l.length≤1099511627776 then some (.v (.c (.r (.sl d s.ct 0 1 l.length))),s.hp.set d (.cells s.ct (l.map fun c=>I (.int .u8 c.toNat))),s.ct+1) else none
    |none=>none
  |.alloc cs=>some (.v (.c (.r (.ptr d s.ct 0))),s.hp.set d (.cells s.ct (cs.map I)),s.ct+1)
  |.box n x=>match ev s x with
    |.v a=>if a.cells.length=n then some (.v (.c (.r (.ptr d s.ct 0))),s.hp.set d (.cells s.ct a.cells),s.ct+1) else none
    |_=>none
  |.build zero places parts=>match traverse (fun p:Nat×Opd=>(ev s p.2).one.map fun a=>(p.1,a)) parts with
    |some ps=>ok1 s ((fillP places (zero.map I) ps).map .agg)
    |none=>none
  |.bsl sz len zero parts own=>match traverse (fun p:Nat×Opd=>(ev s p.2).one.map fun a=>(p.1,a)) parts with
    |some ps=>if len*sz≤16777216∧zero.length=sz then
        match fillS sz (repC len zero) ps with
        |some cs =>
          if own then some (.v (.c (.r (.sl d s.ct 0 sz len))),s.hp.set d (.cells s.ct cs),s.ct+1)
          else match traverse (rd (fun _=>false) s.hp 0 0) cs with
            |some vs=>some (V (.lit 0 vs len),s.hp,s.ct)
            |none=>none
        |none=>none
      else none
    |none=>none
  |.load n agg a=>match ev s a with
    |.v (.c p)=>match lookAt G s.hp p with
      |some cs=>match takeN n cs with
        |some cs=>ok1 s (mk1 agg cs)
        |none=>none
      |none=>none
    |_=>none
  |.store n a x=>match ev s a,ev s x with
    |.v (.c (.r (.ptr b g off))),.v w=>match s.hp.row b g with
      |some cs=>if w.cells.length=n∧off+n≤cs.length then some (.und,s.hp.set b (.cells g (lay cs off w.cells)),s.ct) else none
      |none=>none
    |_,_=>none
  |.clr sz zero x=>match ev s x with
    |.v (.c (.r (.sl b g off sz' len))) =>
      if len=0 then (if s.hp.cur b=some g then some (.und,s.hp,s.ct) else none) else match s.hp.row b g with
        |some cs=>if sz'=sz∧zero.length=sz∧off+len*sz≤cs.length then some (.und,s.hp.set b (.cells g (lay cs off (repC len zero))),s.ct) else none
        |none=>none
    |_=>none
  |.nilchk x=>match ev s x with
    |.v (.c (.r (.ptr b g off)))=>if s.hp.cur b=some g then some (.v (.c (.r (.ptr b g off))),s.hp,s.ct) else none
    |.v (.c (.r (.i (.lp t cs))))=>some (V (.lp t cs),s.hp,s.ct)
    |.v (.c (.r (.i (.gp g off))))=>some (V (.gp g off),s.hp,s.ct)
    |.v (.c (.r (.i (.clo f cs))))=>some (V (.clo f cs),s.hp,s.ct)
    |.v (.c (.clo f cs))=>some (.v (.c (.clo f cs)),s.hp,s.ct)
    |_=>none
  |.fadr off a=>match ev s a with
    |.v (.c (.r (.ptr b g o)))=>if s.hp.cur b=some g then some (.v (.c (.r (.ptr b g (o+off)))),s.hp,s.ct) else none
    |.v (.c (.r (.i (.lp t cs))))=>some (V (.lp t (cs.drop off)),s.hp,s.ct)
    |.v (.c (.r (.i (.gp g o))))=>some (V (.gp g (o+off)),s.hp,s.ct)
    |_=>none
  |.iadr sz x i=>match ev s x,(ev s i).nat with
    |.v (.c (.r (.sl b g off sz' len))),some i=>if sz'=sz∧i<len∧s.hp.cur b=some g then some (.v (.c (.r (.ptr b g (off+i*sz)))),s.hp,s.ct) else none
    |.v (.c (.r (.i (.lit t cs len)))),some i=>if i<len∧cs.length=len*sz then some (V (.lp t ((cs.drop (i*sz)).take sz)),s.hp,s.ct) else none
    |_,_=>none
  |.iadrA len sz x i=>match ev s x,(ev s i).nat with
    |.v (.c (.r (.ptr b g off))),some i=>if i<len∧s.hp.cur b=some g then some (.v (.c (.r (.ptr b g (off+i*sz)))),s.hp,s.ct) else none
    |.v (.c (.r (.i (.gp g off)))),some i=>if i<len then some (V (.gp g (off+i*sz)),s.hp,s.ct) else none
    |_,_=>none
  |.slcS x lo hi=>match (ev s x).strv with
    |some l=>match bound 0 s lo,bound l.length s hi with
      |some a,some b=>if a≤b∧b≤l.length then okv s (some (.str ((l.drop a).take (b-a)))) else none
      |_,_=>none
    |none=>none
  |.slc sz x lo hi mx=>match ev s x with
    |.v (.c (.r (.i .nilS)))=>match bound 0 s lo,bound 0 s hi,bound 0 s mx with
      |some 0,some 0,some 0=>some (V .nilS,s.hp,s.ct)
      |_,_,_=>none
    |.v (.c (.r (.i .emp)))=>match bound 0 s lo,bound 0 s hi,bound 0 s mx with
      |some 0,some 0,some 0=>some (V .emp,s.hp,s.ct)
      |_,_,_=>none
    |.v (.c (.r (.i (.lit t cs len))))=>match mx with
      |none=>match bound 0 s lo,bound len s hi with
        |some a,some b=>if a≤b∧b≤len∧cs.length=len*sz then some (V (.lit t ((cs.drop (a*sz)).take ((b-a)*sz)) (b-a)),s.hp,s.ct) else none
        |_,_=>none
      |some _=>match bound 0 s lo,bound 1 s hi,bound 1 s mx with
        |some 0,some 0,some 0=>some (V .emp,s.hp,s.ct)
        |_,_,_=>none
    |.v (.c (.r (.sl b g off sz' len)))=>match mx with
      |none=>match bound 0 s lo,bound len s hi with
        |some x,some y=>if x≤y∧y≤len∧sz'=sz∧s.hp.cur b=some g then some (.v (.c (.r (.sl b g (off+x*sz) sz (y-x)))),s.hp,s.ct) else none
        |_,_=>none
      |some _=>match bound 0 s lo,bound 1 s hi,bound 1 s mx with
        |some 0,some 0,some 0=>if s.hp.cur b=some g then some (V .emp,s.hp,s.ct) else none
        |_,_,_=>none
    |_=>none
  |.slcA len sz x lo hi=>match ev s x with
    |.v (.c (.r (.ptr b g 0)))=>match bound 0 s lo,bound len s hi,s.hp.row b g with
      |some a,some c,some cs=>if a≤c∧c≤len∧cs.length=len*sz then some (.v (.c (.r (.sl b g (a*sz) sz (c-a)))),s.hp,s.ct) else none
      |_,_,_=>none
    |_=>none
  |.mksl sz bytes zero l c=>match (ev s l).nat,(ev s c).nat with
    |some n,some c=>if n=c∧bytes*n≤70368744177664∧n≤70368744177664∧zero.length=sz then
        some (.v (.c (.r (.sl d s.ct 0 sz n))),s.hp.set d (.cells s.ct (repC n zero)),s.ct+1) else none
    |_,_=>none
  |.mkmap=>some (.v (.c (.r (.map d s.ct))),s.hp.set d (.map s.ct [] 0),s.ct+1)
  |.galloc _ t=>if t<s.tm.length then match s.get t with
    |.und=>some (.und,s.hp,s.ct)
    |_=>none
    else none
  |.gsto n x=>match ev s x with
    |.v w=>if w.cells.length=n then match traverse cellI w.cells with
      |some vs=>some (V (.lp 0 vs),s.hp,s.ct)
      |none=>none
      else none
    |_=>none
  |.lkp kt zero agg ok m k=>match ev s m,plainKey kt (ev s k) with
    |.v (.c (.r (.map b g))),some k=>match s.hp.mapAt b g with
      |some (es,_)=>match findEnt k es with
        |some r=>match (match r with|some v=>some v|none=>mk1 agg (zero.map I)) with
          |some v=>some (if ok then .tup [v,.c (I (.bool r.isSome))] else .v v,s.hp,s.ct)
          |none=>none
        |none=>none
      |none=>none
    |.v (.c (.r (.i .nilM))),some _=>match mk1 agg (zero.map I) with
      |some v=>some (if ok then .tup [v,.c (I (.bool false))] else .v v,s.hp,s.ct)
      |none=>none
    |_,_=>none
  |.mupd kt m k v=>match ev s m,plainKey kt (ev s k),ev s v with
    |.v (.c (.r (.map b g))),some k,.v v=>match s.hp.mapAt b g with
      |some (es,c)=>match findEnt k es with
        |some (some _)=>some (.und,s.hp.set b (.map g (setEnt k v es) c),s.ct)
        |some none=>some (.und,s.hp.set b (.map g (es++[⟨k,v,c⟩]) (c+1)),s.ct)
        |none=>none
      |none=>none
    |_,_,_=>none
  |.ment kt zero agg m k=>match ev s m,plainKey kt (ev s k) with
    |.v (.c (.r (.map b g))),some k=>match s.hp.mapAt b g with
      |some (es,c)=>match findEnt k es,es.find? (fun e=>eqKey k e.key==some true) with
        |some (some v),some e=>some (.tup [v,.c (I (.int .i64 e.born))],s.hp.set b (.map g (setEnt k v es) c),s.ct)
        |some none,_=>match mk1 agg (zero.map I) with
          |some v=>some (.tup [v,.c (I (.int .i64 c))],s.hp.set b (.map g (es++[⟨k,v,c⟩]) (c+1)),s.ct)
          |none=>none
        |_,_=>none
      |none=>none
    |_,_=>none
  |.ests m t v=>match ev s m,(ev s t).nat,ev s v with
    |.v (.c (.r (.map b g))),some n,.v v=>match s.hp.mapAt b g with
      |some (es,c)=>match setBorn n v es with
        |some es'=>some (.und,s.hp.set b (.map g es' c),s.ct)
        |none=>none
      |none=>none
    |_,_,_=>none
  |.mkfn f caps=>match traverse (fun o=>match ev s o with|.v (.c x)=>capOf x|_=>none) caps with
    |some cs=>some (.v (.c (mkClo f cs)),s.hp,s.ct)
    |none=>none
  |.len ty x=>match ty,ev s x with
    |0,.v (.c (.r (.i (.str l))))=>okv s (some (.int .i64 l.length))
    |1,.v (.c (.r (.i .nilS)))=>okv s (some (.int .i64 0))
    |1,.v (.c (.r (.i .emp)))=>okv s (some (.int .i64 0))
    |1,.v (.c (.r (.i (.lit _ _ n))))=>okv s (some (.int .i64 n))
    |1,.v (.c (.r (.sl b g _ _ n)))=>if s.hp.cur b=some g then okv s (some (.int .i64 n)) else none
    |2,.v (.c (.r (.i .nilM)))=>okv s (some (.int .i64 0))
    |2,.v (.c (.r (.map b g)))=>match s.hp.mapAt b g with
      |some (es,_)=>okv s (some (.int .i64 es.length))
      |none=>none
    |_,_=>none
  |.lenA n=>okv s (some (.int .i64 n))
  |.mx l=>match l.map (ev s) with
    |x::r=>(foldV maxI x r).map fun v=>(v,s.hp,s.ct)
    |[]=>none
  |.mn l=>match l.map (ev s) with
    |x::r=>(foldV minI x r).map fun v=>(v,s.hp,s.ct)
    |[]=>none
  |.app sz bytes str x y=>match ev s x,ev s y with
    |.v (.c a),.v (.c b)=>match if isStrC b=str then slCells s.hp sz b else none with
      |some (new,n)=>match a with
        |.r (.i .nilS) =>
          if n=0 then some (V .nilS,s.hp,s.ct)
          else if n*bytes≤17592186044416∧n≤17592186044416 then some (.v (.c (.r (.sl d s.ct 0 sz n))),s.hp.set d (.cells s.ct new),s.ct+1) else none
        |.r (.i .emp) =>
          if n=0 then some (V .emp,s.hp,s.ct)
          else if n*bytes≤17592186044416∧n≤17592186044416 then some (.v (.c (.r (.sl d s.ct 0 sz n))),s.hp.set d (.cells s.ct new),s.ct+1) else none
        |.r (.sl b g off sz' len) =>
          match s.hp.row b g with
          |some cs=>if sz'=sz∧off+len*sz≤cs.length∧(len+n)*bytes≤17592186044416∧len+n≤17592186044416 then
              some (.v (.c (.r (.sl b s.ct off sz (len+n)))),s.hp.set b (.cells s.ct (cs.take (off+len*sz)++new)),s.ct+1) else none
          |none=>none
        |_=>none
      |none=>none
    |_,_=>none
  |.appZ sz bytes zero x y=>match ev s x,ev s y with
    |.v (.c a),.v (.c (.r (.i (.int .i64 k))))=>if 0≤k∧zero.length=sz then appTo s d sz bytes a (repC k.toNat zero) k.toNat else none
    |_,_=>none
  |.copy sz str x y=>match ev s x,ev s y with
    |.v (.c (.r (.sl b g off sz' len))),.v (.c src)=>match (if isStrC src=str then slCells s.hp sz src else none),s.hp.row b g with
      |some (new,n),some cs=>if sz'=sz∧off+len*sz≤cs.length then
          some (V (.int .i64 (min n len)),s.hp.set b (.cells g (lay cs off (new.take (min n len*sz)))),s.ct) else none
      |_,_=>none
    |_,_=>none
  |.del kt m k=>match ev s m,plainKey kt (ev s k) with
    |.v (.c (.r (.map b g))),some k=>match s.hp.mapAt b g with
      |some (es,c)=>match findEnt k es with
        |some _=>some (.tup [],s.hp.set b (.map g (delEnt k es) c),s.ct)
        |none=>none
      |none=>none
    |_,_=>none
  |.ext x n=>match ev s x with
    |.tup l=>ok1 s l[n]?
    |_=>none
  |.rng x=>match (ev s x).strv with
    |some l=>some (.v (.c (.r (.ptr d s.ct 0))),s.hp.set d (.iter s.ct l 0),s.ct+1)
    |none=>none
  |.nxt x=>match ev s x with
    |.v (.c (.r (.ptr b g 0)))=>match s.hp.get b with
      |some (.iter g' l pos)=>if g'=g then
          if pos<l.length then
            some (.tup [.c (I (.bool true)),.c (I (.int .i64 pos)),.c (I (.int .i32 (utf8Next l pos).1))],s.hp.set b (.iter g l (pos+(utf8Next l pos).2)),s.ct)
          else some (.tup [.c (I (.bool false))],s.hp,s.ct)
        else none
      |_=>none
    |_=>none
  |.call ..|.callv ..=>none
/- Calls. A callee has memory of its own: the blocks that it is handed stand there from 'PB' on,with the generation 0. -/
def PB:Nat:=1000000
def idxOf(ids:List Nat)(b:Nat):Option Nat :=
  match ids with
  |[]=>none
  |k::l=>if k=b then some 0 else (idxOf l b).map (·+1)
def toR(bor:Bool)(h:Heap)(ids:List Nat):AR→Option AR
  |.i v=>some (.i (v.retag 1))
  |.ptr b g off=>match idxOf ids b with
    |some i=>if h.cur b=some g then some (.ptr (PB+i) 0 off) else none
    |none=>if bor then
        match rd (fun b=>(idxOf ids b).isNone) h 1 rdDepth (.r (.ptr b g off)) with
        |some v=>some (.i (v.retag 1))
        |none=>none
      else none
  |.sl b g off sz len=>match idxOf ids b with
    |some i=>if h.cur b=some g then some (.sl (PB+i) 0 off sz len) else none
    |none=>if bor then
        match rd (fun b=>(idxOf ids b).isNone) h 1 rdDepth (.r (.sl b g off sz len)) with
        |some v=>some (.i (v.retag 1))
        |none=>none
      else none
  |.map b g=>match idxOf ids b with
    |some i=>if h.cur b=some g then some (.map (PB+i) 0) else none
    |none=>none
def toC(bor:Bool)(h:Heap)(ids:List Nat):AC→Option AC
  |.r a=>(toR bor h ids a).map .r
  |.clo f caps=>(traverse (toR bor h ids) caps).map (mkClo f)
def to1(bor:Bool)(h:Heap)(ids:List Nat):A1→Option A1
  |.c x=>(toC bor h ids x).map .c
  |.agg xs=>(traverse (toC bor h ids) xs).map .agg
def toEnt(h:Heap)(ids:List Nat)(e:Ent):Option Ent :=
  match to1 false h ids e.key,to1 false h ids e.val with
  |some k,some v=>some {key:=k,val:=v,born:=e.born}
  |_,_=>none
def toB(h:Heap)(ids:List Nat):Blk→Option Blk
  |.cells _ cs=>(traverse (toC false h ids) cs).map (.cells 0)
  |.map _ es k=>(traverse (toEnt h ids) es).map (.map 0 · k)
  |.iter _ l p=>some (.iter 0 l p)
def lentR(ids:List Nat):AR→Bool
  |.sl b _ _ _ _=>(idxOf ids b).isNone
  |.ptr b _ _=>(idxOf ids b).isNone
  |_=>false
def lentC(ids:List Nat):AC→Bool
  |.r a=>lentR ids a
  |.clo _ caps=>caps.any (lentR ids)
def refR(give:Bool):AR→List Nat
  |.ptr b _ _|.map b _=>[b]
  |.sl b _ _ _ _=>if give then [b] else []
  |_=>[]
def refC(give:Bool):AC→List Nat
  |.r a=>refR give a
  |.clo _ caps=>caps.flatMap (refR give)
def ddup:List Nat→List Nat
  |[]=>[]
  |b::l=>let r:=ddup l;if r.contains b then r else b::r
def refsOf(give:List (Nat×Nat))(args:List A1):List Nat :=
  ddup (args.zipIdx.flatMap fun (a,i)=>a.cells.zipIdx.flatMap fun (x,j)=>refC (give.contains (i,j)) x)
def backAt(pl:List (Nat×Nat×Nat))(b:Nat):Option (Nat×Nat) :=
  match pl with
  |[]=>none
  |(k,c,g)::l=>if k=b then some (c,g) else backAt l b
def backR(h:Heap)(pl:List (Nat×Nat×Nat))(lent:Bool):AR→Option AR
  |.i v=>if lent&&!v.fresh then none else some (.i v)
  |.ptr b g off=>match backAt pl b with
    |some (c,g')=>if h.cur b=some g then some (.ptr c g' off) else none
    |none=>none
  |.sl b g off sz len=>match backAt pl b with
    |some (c,g')=>if h.cur b=some g then some (.sl c g' off sz len) else none
    |none=>match rd (fun b=>(backAt pl b).isNone) h 0 rdDepth (.r (.sl b g off sz len)) with
      |some v=>if lent&&!v.fresh then none else some (.i v)
      |none=>none
  |.map b g=>match backAt pl b with
    |some (c,g')=>if h.cur b=some g then some (.map c g') else none
    |none=>none
def backC(h:Heap)(pl:List (Nat×Nat×Nat))(lent:Bool):AC→Option AC
  |.r a=>(backR h pl lent a).map .r
  |.clo f caps=>(traverse (backR h pl lent) caps).map (mkClo f)
def back1(h:Heap)(pl:List (Nat×Nat×Nat))(lent:Bool):A1→Option A1
  |.c x=>(backC h pl lent x).map .c
  |.agg xs=>(traverse (backC h pl lent) xs).map .agg
def backEnt(h:Heap)(pl:List (Nat×Nat×Nat))(lent:Bool)(e:Ent):Option Ent :=
  match back1 h pl lent e.key,back1 h pl lent e.val with
  |some k,some v=>some {key:=k,val:=v,born:=e.born}
  |_,_=>none
def backB(h:Heap)(pl:List (Nat×Nat×Nat))(lent:Bool)(g:Nat):Blk→Option Blk
  |.cells _ cs=>(traverse (backC h pl lent) cs).map (.cells g)
  |.map _ es k=>(traverse (backEnt h pl lent) es).map (.map g · k)
  |.iter _ l p=>some (.iter g l p)
def backH(h:Heap)(pl:List (Nat×Nat×Nat))(lent:Bool):List (Nat×Nat×Nat)→Heap→Option Heap
  |[],hp=>some hp
  |(k,c,g)::l,hp=>match h.get k with
    |some b=>match backB h pl lent g b with
      |some b'=>backH h pl lent l (hp.set c b')
      |none=>none
    |none=>none
def placesOf(h hp:Heap)(ct:Nat)(ids:List Nat)(ad:List (Nat×Nat)):List (Nat×Nat×Nat) :=
  (ids.zipIdx.map fun (b,i)=>(PB+i,b,if h.cur (PB+i)=some 0 then (hp.cur b).getD ct else ct))++ad.map fun (k,c)=>(k,c,ct)
abbrev Run:=Nat→List A1→List Blk→Option (List A1×Heap)
def handOver(h:Heap)(ids:List Nat):Option (List Blk) :=
  traverse (fun b=>match h.get b with|some x=>toB h ids x|none=>none) ids
def resV:List A1→AV
  |[a]=>.v a
  |l=>.tup l
def nodupB:List Nat→Bool
  |[]=>true
  |a::l=>!l.contains a&&nodupB l
def recvRefs(h:Heap):List Nat:=match h.get PB with
  |some (.cells _ cs)=>cs.flatMap (refC true)
  |_=>[]
def slOf:AC→Option Nat
  |.r (.sl b _ _ _ _)=>some b
  |_=>none
def adOf(ad:List (Nat×Nat))(rs:List A1)(h:Heap):List (Nat×Nat) :=
  ad.flatMap fun (k,c)=>if k<PB then [(k,c)] else if PB<k then (if k-(PB+1)<PB&&(recvRefs h).contains (k-(PB+1)) then [(k-(PB+1),c)] else []) else match rs with
    |.c (.r (.sl b _ _ _ _))::_=>if b<PB then [(b,c)] else []
    |.c (.r (.map b _))::_=>if b<PB then [(b,c)] else []
    |.agg xs::_=>match xs.findSome? slOf with
      |some b=>if b<PB then [(b,c)] else []
      |none=>[]
    |_=>[]
def refDeep(h:Heap):Nat→List Nat→List Nat
  |0,l=>l
  |n+1,l=>l++refDeep h n (l.flatMap fun b=>match h.get b with
      |some (.cells _ cs)=>cs.flatMap (refC true)
      |_=>[])
def firsts(l:List Nat):List Nat:=l.foldl (fun acc b=>if acc.contains b then acc else acc++[b]) []
def doCall(R:Run)(s:St)(f:Nat)(args:List A1)(how:How):Out :=
  if how.pure then
    match traverse (to1 true s.hp []) args with
    |some as=>match R f as [] with
      |some (rs,h)=>match traverse (back1 h [] (args.any fun a=>a.cells.any (lentC []))) rs with
        |some vs=>some (resV vs,s.hp,s.ct)
        |none=>none
      |none=>none
    |none=>none
  else
  let ids:=if how.deep then firsts (refDeep s.hp 2 (refsOf how.give args)) else refsOf how.give args
  match traverse (to1 true s.hp ids) args,handOver s.hp ids with
  |some as,some bs =>
    match R f as bs with
    |some (rs,h) =>
      let ad:=adOf how.ad rs h
      let pl:=placesOf h s.hp s.ct ids ad
      let lent:=args.any fun a=>a.cells.any (lentC ids)
      if nodupB ids&&ad.all (fun p=>decide (p.1<PB)&&(s.hp.get p.2).isNone)&&nodupB (ad.map (·.1))&&nodupB (ad.map (·.2)) then
        match traverse (back1 h pl lent) rs,backH h pl lent pl s.hp with
        |some vs,some hp=>some (resV vs,hp,s.ct+1)
        |_,_=>none
      else none
    |none=>none
  |_,_=>none
def evals(s:St)(l:List Opd):Option (List A1):=traverse (fun o=>(ev s o).one) l
def opK(G:Nat→List IV)(R:Run)(s:St)(d:Nat):K→Out
  |.call f args how=>match evals s args with
    |some as=>doCall R s f as how
    |none=>none
  |.callv x args how=>match evals s args,ev s x with
    |some as,.v (.c (.r (.i (.clo f caps))))=>doCall R s f (as++caps.map fun v=>.c (I v)) how
    |some as,.v (.c (.clo f caps))=>doCall R s f (as++caps.map fun v=>.c (.r v)) how
    |_,_=>none
  |k=>step G s d k
def want(s:St):Option (Nat×Bool)→Option Bool
  |none=>some true
  |some (t,b)=>match s.get t with
    |.v (.c (.r (.i (.bool c))))=>some (c==b)
    |.skp=>some false
    |_=>none
def delAll(h:Heap):List Nat→Heap
  |[]=>h
  |b::l=>delAll (h.del b) l
def insV(G:Nat→List IV)(R:Run)(s:St)(d:Option Nat)(g:Option (Nat×Bool))(k:K):Out :=
  match want s g with
  |some true=>opK G R s (d.getD 0) k
  |some false=>some (.skp,s.hp,s.ct)
  |none=>none
def St.with(s:St)(d:Option Nat)(r:AV×Heap×Nat):St:={s with hp:=r.2.1,ct:=r.2.2}.put d r.1
def insI(G:Nat→List IV)(R:Run)(s:St):Ins→Option St
  |.kill ts bs=>some {s with tm:=ts.foldl (fun l t=>l.set t .und) s.tm,hp:=delAll s.hp bs}
  |.frz t=>match s.get t with
    |.v a =>
      let bs:=(refDeep s.hp 3 (a.cells.flatMap (refC true))).filter (fun b=>decide (b<PB))
      match traverse (rd (fun b=>bs.contains b) s.hp 0 rdDepth) a.cells,a with
      |some vs,.agg _=>some {s with tm:=s.tm.set t (.v (.agg (vs.map I))),hp:=delAll s.hp bs}
      |some [v],.c _=>some {s with tm:=s.tm.set t (V v),hp:=delAll s.hp bs}
      |_,_=>none
    |_=>none
  |.op d g k=>match insV G R s d g k with
    |some r=>some (s.with d r)
    |none=>none
def insL(G:Nat→List IV)(R:Run):List Ins→St→Option St
  |[],s=>some s
  |i::l,s=>match insI G R s i with
    |some s=>insL G R l s
    |none=>none
/- A region that draws its order. 'pre': for each operation those that are before it,whatever the order. -/
def opdT:Opd→List Nat
  |.t n=>[n]
  |_=>[]
def optT:Option Opd→List Nat
  |some x=>opdT x
  |none=>[]
def K.reads:K→List Nat
  |.mov x|.fld _ _ _ x|.un _ x|.cvI _ x|.cvIS x|.cvSS x|.cvBS x|.cvSB x|.box _ x|.load _ _ x|.nilchk x|.fadr _ x|.len _ x|.ext x _|.rng x|.nxt x|.gsto _ x|.clr _ _ x=>opdT x
  |.galloc _ t=>[t]
  |.pick a b c=>opdT a++opdT b++opdT c
  |.idx _ _ _ x i|.idxS x i|.bin _ x i|.eqB _ x i|.eqN _ _ x i|.eqv _ _ x i|.store _ x i|.iadr _ x i|.iadrA _ _ x i|.mksl _ _ _ x i|.lkp _ _ _ _ x i|.ment _ _ _ x i|.app _ _ _ x i|.appZ _ _ _ x i|.copy _ _ x i|.del _ x i=>opdT x++opdT i
  |.alloc _|.mkmap|.lenA _=>[]
  |.build _ _ ps|.bsl _ _ _ ps _=>ps.flatMap fun p=>opdT p.2
  |.slcS x lo hi=>opdT x++optT lo++optT hi
  |.slc _ x lo hi m3=>opdT x++optT lo++optT hi++optT m3
  |.slcA _ _ x lo hi=>opdT x++optT lo++optT hi
  |.mupd _ m k v|.ests m k v=>opdT m++opdT k++opdT v
  |.mkfn _ l|.mx l|.mn l|.call _ l _=>l.flatMap opdT
  |.callv x l _=>opdT x++l.flatMap opdT
def K.turns:K→Bool
  |.store ..|.app ..|.appZ ..|.copy ..|.alloc ..|.box ..|.mksl ..|.mkmap|.mupd ..|.ment ..|.ests ..|.del ..|.cvSB ..|.rng ..|.nxt ..|.clr ..=>true
  |.bsl _ _ _ _ own=>own
  |.call _ _ how|.callv _ _ how=>!how.pure
  |_=>false
def Ins.reads:Ins→List Nat
  |.op _ g k=>(match g with|some (t,_)=>[t]|none=>[])++k.reads
  |_=>[]
def Ins.dst:Ins→Option Nat
  |.op d _ _=>d
  |_=>none
def Ins.turns:Ins→Bool
  |.op _ _ k=>k.turns
  |_=>false
def Ins.isOp:Ins→Bool
  |.op ..=>true
  |_=>false
def preHas(pre:List (List Nat))(i j:Nat):Bool:=match pre[i]? with|some p=>p.contains j|none=>false
def pairOk(l:List Ins)(pre:List (List Nat))(i j:Nat):Bool :=
  match l[i]?,l[j]? with
  |some x,some y =>
    (x.dst.isNone||x.dst != y.dst)&&(preHas pre i j||preHas pre j i||((match x.dst with|some d=>!y.reads.contains d|none=>true)&&(match y.dst with|some d=>!x.reads.contains d|none=>true)&&!(x.turns&&y.turns)))
  |_,_=>false
def drawStatic(l:List Ins)(pre:List (List Nat)):Bool :=
  l.all Ins.isOp&&pre.length==l.length&&((List.range l.length).all fun i=>(List.range i).all fun j=>pairOk l pre i j)&&(pre.zipIdx.all fun (p,i)=>p.all fun j=>decide (j<i))
mutual
def eqIV:IV→IV→Bool
  |.bool a,.bool b=>a==b
  |.int k a,.int k' b=>decide (k=k')&&decide (a=b)
  |.str a,.str b=>decide (a=b)
  |.nilS,.nilS|.emp,.emp|.nilP,.nilP|.nilM,.nilM|.nilF,.nilF|.nilI,.nilI=>true
  |.lit t a n,.lit t' b m=>t==t'&&eqIVs a b&&n==m
  |.lp t a,.lp t' b=>t==t'&&eqIVs a b
  |.gp g o,.gp g' o'=>g==g'&&o==o'
  |.clo f a,.clo f' b=>f==f'&&eqIVs a b
  |_,_=>false
def eqIVs:List IV→List IV→Bool
  |[],[]=>true
  |x::l,y::m=>eqIV x y&&eqIVs l m
  |_,_=>false
end
def eqAR:AR→AR→Bool
  |.i a,.i b=>eqIV a b
  |.ptr b g o,.ptr b' g' o'=>b==b'&&g==g'&&o==o'
  |.sl b g o z n,.sl b' g' o' z' n'=>b==b'&&g==g'&&o==o'&&z==z'&&n==n'
  |.map b g,.map b' g'=>b==b'&&g==g'
  |_,_=>false
def eqL{α:Type}(f:α→α→Bool):List α→List α→Bool
  |[],[]=>true
  |x::l,y::m=>f x y&&eqL f l m
  |_,_=>false
def eqAC:AC→AC→Bool
  |.r a,.r b=>eqAR a b
  |.clo f a,.clo f' b=>f==f'&&eqL eqAR a b
  |_,_=>false
def eqA1:A1→A1→Bool
  |.c a,.c b=>eqAC a b
  |.agg a,.agg b=>eqL eqAC a b
  |_,_=>false
def eqAV:AV→AV→Bool
  |.und,.und|.skp,.skp=>true
  |.v a,.v b=>eqA1 a b
  |.tup a,.tup b=>eqL eqA1 a b
  |_,_=>false
def turnAt(l:List Ins)(j:Nat):Bool:=match l[j]? with|some x=>x.turns|none=>false
def cntS(l:List Ins)(S:Nat→Bool):Nat:=(List.range l.length).countP fun j=>S j&&turnAt l j
def loOf(l:List Ins)(pre:List (List Nat))(i:Nat):Nat:=cntS l (preHas pre i)
def hiOf(l:List Ins)(pre:List (List Nat))(i:Nat):Nat:=cntS l fun j=>!preHas pre j i
def trail(G:Nat→List IV)(R:Run):List Ins→St→Option (List St×List (Heap×Nat))
  |[],s=>some ([s],[(s.hp,s.ct)])
  |x::l,s=>match insI G R s x with
    |some s'=>match trail G R l s' with
      |some (ss,hs)=>some (s::ss,if x.turns then (s.hp,s.ct)::hs else hs)
      |none=>none
    |none=>none
def stableAt(G:Nat→List IV)(R:Run)(x:Ins)(s:St)(h:Heap×Nat):Bool :=
  match x with
  |.op d g k=>match insV G R s d g k,insV G R {s with hp:=h.1,ct:=h.2} d g k with
    |some r,some r'=>eqAV r'.1 r.1
    |_,_=>false
  |_=>false
def drawDyn(G:Nat→List IV)(R:Run)(l:List Ins)(pre:List (List Nat))(ss:List St)(hs:List (Heap×Nat)):Bool :=
  (List.range l.length).all fun i=>match l[i]?,ss[i]? with
    |some x,some s=>x.turns||(let lo:=loOf l pre i;let hi:=hiOf l pre i
      lo==hi||(List.range (hi+1-lo)).all fun c=>match hs[lo+c]? with|some h=>stableAt G R x s h|none=>false)
    |_,_=>false
def loopN(f:St→Option (Ex×St)):Nat→St→Option (Ex×St)
  |0,_=>none
  |n+1,s=>match f s with
    |some (.normal,s)=>loopN f n s
    |r=>r
def exec(G:Nat→List IV)(R:Run)(n:Nat):IR→St→Option (Ex×St)
  |.skip,s=>some (.normal,s)
  |.reg l,s=>match insL G R l s with
    |some s=>some (.normal,s)
    |none=>none
  |.regD l pre,s=>match trail G R l s with
    |some (ss,hs)=>if drawDyn G R l pre ss hs then match ss.getLast? with
      |some s'=>some (.normal,s')
      |none=>none
      else none
    |none=>none
  |.ghost l a,s=>match insL G R l s with
    |some s=>exec G R n a s
    |none=>none
  |.seq a b,s=>match exec G R n a s with
    |some (.normal,s)=>exec G R n b s
    |r=>r
  |.cond x a b,s=>match (ev s x).bool with
    |some true=>exec G R n a s
    |some false=>exec G R n b s
    |none=>none
  |.block id a,s=>match exec G R n a s with
    |some (.exit i,s)=>some (if i=id then .normal else .exit i,s)
    |r=>r
  |.loop a,s=>loopN (exec G R n a) n s
  |.exit id,s=>some (.exit id,s)
  |.ret,s=>some (.ret,s)
def readRes(s:St):Res→Option A1
  |.tmp t=>(s.get t).one
  |.cell t n agg=>match s.get t with
    |.v (.c (.r (.ptr b g off)))=>match s.hp.row b g with
      |some cs=>match takeN n (cs.drop off) with
        |some cs=>mk1 agg cs
        |none=>none
      |none=>none
    |_=>none
def start(fn:Fn)(args:List A1)(bs:List Blk):St :=
  {tm:=args.map .v++List.replicate (fn.nt-args.length) .und,hp:=bs.zipIdx.map fun (b,i)=>(PB+i,b),ct:=1}
def run(G:Nat→List IV)(F:Nat→Option Fn)(X:Run)(n:Nat):Nat→Run
  |0,_,_,_=>none
  |d+1,f,args,bs=>match F f with
    |none=>X f args bs
    |some fn=>match exec G (run G F X n d) n fn.body (start fn args bs) with
      |some (.exit _,_)=>none
      |some (_,s)=>match traverse (readRes s) fn.res with
        |some rs=>some (rs,s.hp)
        |none=>none
      |none=>none
abbrev o_(d:Nat)(k:K):Ins:=.op (some d) none k
abbrev h_:How:={give:=[],ad:=[],pure:=true}
inductive All2{α β:Type}(R:α→β→Prop):List α→List β→Prop
  |nil:All2 R [] []
  |cons {a b l m}:R a b→All2 R l m→All2 R (a::l) (b::m)
theorem All2.mono{α β:Type}{R S:α→β→Prop}{l:List α}{m:List β}(h:All2 R l m)(f:∀ a b,R a b→S a b):All2 S l m:=by
 induction h with
 |nil=>exact .nil
 |cons h _ ih=>exact .cons (f _ _ h) ih
theorem All2.length{α β:Type}{R:α→β→Prop}{l:List α}{m:List β}(h:All2 R l m):m.length=l.length:=by
 induction h with
 |nil=>rfl
 |cons _ _ ih=>simp[ih]
theorem All2.get{α β:Type}{R:α→β→Prop}{l:List α}{m:List β}(h:All2 R l m):∀ (i:Nat) (a:α),l[i]?=some a→∃ b,m[i]?=some b∧R a b:=by
 induction h with
 |nil=>intro i a h;simp at h
 |cons h _ ih =>
  intro i a hi;cases i with
  |zero=>simp at hi;subst hi;exact ⟨_,rfl,h⟩
  |succ i=>simpa using ih i a (by simpa using hi)
theorem All2.of_get{α β:Type}{R:α→β→Prop}:∀ {l:List α} {m:List β},m.length=l.length→(∀ (i:Nat) (a:α) (b:β),l[i]?=some a→m[i]?=some b→R a b)→All2 R l m
 |[],[],_,_=>.nil
 |[],_::_,h,_=>by simp at h
 |_::_,[],h,_=>by simp at h
 |a::l,b::m,h,f=>.cons (f 0 a b rfl rfl) (All2.of_get (by simpa using h) fun i x y hx hy=>f (i+1) x y (by simpa using hx) (by simpa using hy))
theorem All2.append{α β:Type}{R:α→β→Prop}{l l':List α}{m m':List β}(h:All2 R l m)(h':All2 R l' m'):All2 R (l++l') (m++m'):=by
 induction h with
 |nil=>exact h'
 |cons h _ ih=>exact .cons h ih
theorem All2.take{α β:Type}{R:α→β→Prop}{l:List α}{m:List β}(h:All2 R l m):∀ n,All2 R (l.take n) (m.take n):=by
 induction h with
 |nil=>intro n;simp;exact .nil
 |cons h _ ih=>intro n;cases n with
  |zero=>simp;exact .nil
  |succ n=>simp;exact .cons h (ih n)
theorem All2.drop{α β:Type}{R:α→β→Prop}{l:List α}{m:List β}(h:All2 R l m):∀ n,All2 R (l.drop n) (m.drop n):=by
 induction h with
 |nil=>intro n;simp;exact .nil
 |cons h h' ih=>intro n;cases n with
  |zero=>simpa using .cons h h'
  |succ n=>simpa using ih n
theorem All2.map{α β γ:Type}{R:α→β→Prop}{S:γ→β→Prop}{l:List α}{m:List β}(g:α→γ)(h:All2 R l m)(f:∀ a b,R a b→S (g a) b):All2 S (l.map g) m:=by
 induction h with
 |nil=>exact .nil
 |cons h _ ih=>exact .cons (f _ _ h) ih
theorem All2.of_traverse{α β γ:Type}{R:α→β→Prop}{S:γ→β→Prop}{g:α→Option γ}{l:List α}{m:List β}(h:All2 R l m)(f:∀ a b c,R a b→g a=some c→S c b) :
  ∀ {l':List γ},traverse g l=some l'→All2 S l' m:=by
 induction h with
 |nil=>intro l' e;simp[traverse] at e;subst e;exact .nil
 |@cons a b l m h _ ih =>
  intro l' e;simp only[traverse] at e;split at e
  ·simp at e
  ·rename_i c hc
   split at e
   ·simp at e
   ·rename_i cs hcs
    simp at e;subst e;exact .cons (f _ _ _ h hc) (ih hcs)
theorem traverse_length{α β:Type}{f:α→Option β}:∀ {l:List α} {l':List β},traverse f l=some l'→l'.length=l.length
 |[],_,h=>by simp[traverse] at h;subst h;rfl
 |a::l,_,h=>by
  simp only[traverse] at h
  split at h
  ·simp at h
  ·split at h
   ·simp at h
   ·rename_i bs hbs
    simp at h
    subst h
    simp[traverse_length hbs]
theorem traverse_get{α β:Type}{f:α→Option β}:∀ {l:List α} {l':List β},traverse f l=some l'→∀ (i:Nat) (b:β),l'[i]?=some b→∃ a,l[i]?=some a∧f a=some b
 |[],_,h,i,b,hb=>by simp[traverse] at h;subst h;simp at hb
 |a::l,_,h,i,b,hb=>by
  simp only[traverse] at h
  split at h
  ·simp at h
  ·rename_i c hc
   split at h
   ·simp at h
   ·rename_i bs hbs
    simp at h
    subst h
    cases i with
    |zero=>simp at hb;subst hb;exact ⟨a,rfl,hc⟩
    |succ i=>simpa using traverse_get hbs i b (by simpa using hb)
def One(v:Value):Prop:=v.oneCell'=true
inductive VR(p:Nat→Nat→Prop)(h:Array Obj):IV→Value→Prop
  |bool (b:Bool):VR p h (.bool b) (.bool b)
  |int (k:IntKind) (n:Int):VR p h (.int k n) (.int k n)
  |str (l:List UInt8) (s:ByteArray):s.data.toList=l→VR p h (.str l) (.string s)
  |nilS:VR p h .nilS (.slice none 0 0)
  |emp (a:Addr):VR p h .emp (.slice (some a) 0 0)
  |lit (t:Nat) (cells:List IV) (len c o cap:Nat) (cs:Array Value) (e:TypeId) (fr:Nat×Nat) (vs:List Value) :
      p t c→h[c]?=some (.cells cs e fr)→vs.length=cells.length→(∀ (i:Nat) (v:Value),vs[i]?=some v→cs[o+i]?=some v) →
      (∀ (i:Nat) (x:IV) (v:Value),cells[i]?=some x→vs[i]?=some v→VR p h x v)→len≤cap→VR p h (.lit t cells len) (.slice (some ⟨c,o,none⟩) len cap)
  |lit0 (t len cap:Nat) (a:Addr):len≤cap→VR p h (.lit t [] len) (.slice (some a) len cap)
  |lp (t:Nat) (cells:List IV) (c o:Nat) (cs:Array Value) (e:TypeId) (fr:Nat×Nat) (vs:List Value) :
      p t c→h[c]?=some (.cells cs e fr)→vs.length=cells.length→(∀ (i:Nat) (v:Value),vs[i]?=some v→cs[o+i]?=some v) →
      (∀ (i:Nat) (x:IV) (v:Value),cells[i]?=some x→vs[i]?=some v→VR p h x v)→VR p h (.lp t cells) (.pointer (some ⟨c,o,none⟩))
  |lp0 (t:Nat) (a:Addr):VR p h (.lp t []) (.pointer (some a))
  |nilP:VR p h .nilP (.pointer none)
  |gp (g off:Nat):VR p h (.gp g off) (.pointer (some ⟨g,off,none⟩))
  |nilM:VR p h .nilM (.map none)
  |nilF:VR p h .nilF .nilFunc
  |clo (f:Nat) (caps:List IV) (vs:List Value):vs.length=caps.length→(∀ (i:Nat) (x:IV) (v:Value),caps[i]?=some x→vs[i]?=some v→VR p h x v) →
      VR p h (.clo f caps) (.func (.func f) #[] vs.toArray)
  |nilI:VR p h .nilI .nilIface
theorem VR.one{p:Nat→Nat→Prop}{h:Array Obj}{x:IV}{v:Value}(r:VR p h x v):One v:=by cases r<;>rfl
theorem VR.mono{p p':Nat→Nat→Prop}{h h':Array Obj}(hp:∀ t c,c<h.size→p t c→p' t c∧h'[c]?=h[c]?){x:IV}{v:Value}(r:VR p h x v):VR p' h' x v:=by
 induction r with
 |bool b=>exact .bool b
 |int k n=>exact .int k n
 |str l s e=>exact .str l s e
 |nilS=>exact .nilS
 |emp a=>exact .emp a
 |lit t cells len c o cap cs e fr vs h1 h2 h3 h4 _ h6 ih =>
  have hc:=(Array.getElem?_eq_some_iff.1 h2).1;obtain ⟨q1,q2⟩:=hp t c hc h1;exact .lit t cells len c o cap cs e fr vs q1 (q2.trans h2) h3 h4 ih h6
 |lit0 t len cap a h=>exact .lit0 t len cap a h
 |lp t cells c o cs e fr vs h1 h2 h3 h4 _ ih =>
  have hc:=(Array.getElem?_eq_some_iff.1 h2).1;obtain ⟨q1,q2⟩:=hp t c hc h1;exact .lp t cells c o cs e fr vs q1 (q2.trans h2) h3 h4 ih
 |lp0 t a=>exact .lp0 t a
 |nilP=>exact .nilP
 |gp g off=>exact .gp g off
 |nilM=>exact .nilM
 |nilF=>exact .nilF
 |clo f caps vs h1 _ ih=>exact .clo f caps vs h1 ih
 |nilI=>exact .nilI
structure Cx where
  w0:World
  A0:Nat→Nat→Prop
  F1:Nat→Prop
  H:Nat→Option Obj:=fun _=>none
def Cx.A(X:Cx)(c:Nat):Prop:=∃ b,X.A0 b c
structure Env where
  h:Heap
  m:Nat→Nat×Nat
  ct:Nat
  w:World
def Env.live(E:Env)(c:Nat):Prop:=∃ b,(E.h.get b).isSome=true∧(E.m b).1=c
def okc(X:Cx)(E:Env)(t c:Nat):Prop:=(X.w0.heap.size≤c∧¬ (E.live c∨(X.H c).isSome=true))∨(t≠0∧X.F1 c)
def CapOk(w:World)(c o sz len cap:Nat):Prop:=len≤cap∧∃ cs e fr,w.heap[c]?=some (.cells cs e fr)∧o+cap*sz=cs.size
def RR(X:Cx)(E:Env):AR→Value→Prop
  |.i v,x=>VR (okc X E) E.w.heap v x
  |.ptr b g off,x=>One x∧g<E.ct∧(E.h.cur b=some g→(E.m b).2≤off∧x=.pointer (some ⟨(E.m b).1,off-(E.m b).2,none⟩))
  |.sl b g off sz len,x=>One x∧g<E.ct∧(E.h.cur b=some g→(E.m b).2≤off∧((∃ cap,x=.slice (some ⟨(E.m b).1,off-(E.m b).2,none⟩) len cap∧CapOk E.w (E.m b).1 (off-(E.m b).2) sz len cap)∨(len=0∧∃ a,x=.slice (some a) 0 0)))
  |.map b g,x=>One x∧g<E.ct∧(E.h.cur b=some g→x=.map (some (E.m b).1))
def CC(X:Cx)(E:Env):AC→Value→Prop
  |.r a,x=>RR X E a x
  |.clo f caps,x=>∃ vs,x=.func (.func f) #[] vs.toArray∧All2 (RR X E) caps vs
def A1R(X:Cx)(E:Env):A1→Value→Prop
  |.c a,x=>CC X E a x
  |.agg xs,x=>∃ vs,x=.agg vs.toArray∧All2 (CC X E) xs vs
def AVR(X:Cx)(E:Env):AV→Value→Prop
  |.und,_=>True
  |.skp,x=>x=undef
  |.v a,x=>A1R X E a x
  |.tup l,x=>∃ vs,x=.tuple vs.toArray∧All2 (A1R X E) l vs
structure EntR(X:Cx)(E:Env)(e:Ent)(c:MapEntry):Prop where
  key:A1R X E e.key c.key
  val:A1R X E e.val c.val
  born:c.born=e.born
def BR(X:Cx)(E:Env)(b:Nat):Blk→Prop
  |.cells _ cs=>∃ cc e fr,E.w.heap[(E.m b).1]?=some (.cells cc e fr)∧(cc.size≤fr.1∨fr.2≤fr.1)∧(E.m b).2≤cs.length ∧
      ∀ i x,(E.m b).2≤i→cs[i]?=some x→∃ v,cc[i-(E.m b).2]?=some v∧CC X E x v
  |.map _ es clock=>∃ ces,E.w.heap[(E.m b).1]?=some (.map ces clock)∧All2 (EntR X E) es ces.toList
  |.iter _ s pos=>∃ bs,E.w.heap[(E.m b).1]?=some (.stringIter bs pos)∧bs.data.toList=s
structure WR(X:Cx)(E:Env):Prop where
  blk:∀ b x,E.h.get b=some x→BR X E b x∧x.gen<E.ct∧(X.w0.heap.size≤(E.m b).1∨X.A0 b (E.m b).1)
  inj:∀ b b',(E.h.get b).isSome=true→(E.h.get b').isSome=true→(E.m b).1=(E.m b').1→b=b'
  size:X.w0.heap.size≤E.w.heap.size
  still:∀ c,c<X.w0.heap.size→¬ X.A c→E.w.heap[c]?=X.w0.heap[c]?
  os:E.w.os=X.w0.os
  tape:E.w.tape=X.w0.tape
  output:E.w.output=X.w0.output
  f1:∀ c,X.F1 c→c<X.w0.heap.size∧¬ X.A c
  a0:∀ b c,X.A0 b c→PB≤b∧c<X.w0.heap.size
  hid:∀ c o,X.H c=some o→E.w.heap[c]?=some o∧X.w0.heap.size≤c∧¬ E.live c
structure Ext(X:Cx)(E E':Env):Prop where
  ct:E.ct≤E'.ct
  cur:∀ b g,g<E.ct→E'.h.cur b=some g→E.h.cur b=some g∧E'.m b=E.m b ∧
    ∀ cc e fr,E.w.heap[(E.m b).1]?=some (.cells cc e fr)→∃ cc' e' fr',E'.w.heap[(E.m b).1]?=some (.cells cc' e' fr')∧cc'.size=cc.size
  ok:∀ t c,c<E.w.heap.size→okc X E t c→okc X E' t c∧E'.w.heap[c]?=E.w.heap[c]?
theorem Ext.refl(X:Cx)(E:Env):Ext X E E :=
 ⟨Nat.le_refl _,fun _ _ _ h=>⟨h,rfl,fun cc e fr h=>⟨cc,e,fr,h,rfl⟩⟩,fun _ _ _ h=>⟨h,rfl⟩⟩
theorem RR.ext{X:Cx}{E E':Env}(h:Ext X E E'){a:AR}{v:Value}(r:RR X E a v):RR X E' a v:=by
 cases a with
 |i x=>exact VR.mono h.ok r
 |ptr b g off =>
  obtain ⟨h1,h2,h3⟩:=r;refine ⟨h1,Nat.lt_of_lt_of_le h2 h.ct,fun hc=>?_⟩;obtain ⟨q1,q2,_⟩:=h.cur b g h2 hc;rw[q2];exact h3 q1
 |map b g =>
  obtain ⟨h1,h2,h3⟩:=r;refine ⟨h1,Nat.lt_of_lt_of_le h2 h.ct,fun hc=>?_⟩;obtain ⟨q1,q2,_⟩:=h.cur b g h2 hc;rw[q2];exact h3 q1
 |sl b g off sz len =>
  obtain ⟨h1,h2,h3⟩:=r;refine ⟨h1,Nat.lt_of_lt_of_le h2 h.ct,fun hc=>?_⟩;obtain ⟨q1,q2,q3⟩:=h.cur b g h2 hc;rw[q2];obtain ⟨q4,q5⟩:=h3 q1;refine ⟨q4,?_⟩;rcases q5 with ⟨cap,q5,q6,cs,e,fr,q7,q8⟩|q5
  ·obtain ⟨cc',e',fr',q9,q10⟩:=q3 cs e fr q7
   exact .inl ⟨cap,q5,q6,cc',e',fr',q9,by rw[q10];exact q8⟩
  ·exact .inr q5
theorem CC.ext{X:Cx}{E E':Env}(h:Ext X E E'){a:AC}{v:Value}(r:CC X E a v):CC X E' a v:=by
 cases a with
 |r a=>exact RR.ext h r
 |clo f caps =>
  obtain ⟨vs,e,r⟩:=r;exact ⟨vs,e,r.mono fun _ _=>RR.ext h⟩
theorem A1R.ext{X:Cx}{E E':Env}(h:Ext X E E'){a:A1}{v:Value}(r:A1R X E a v):A1R X E' a v:=by
 cases a with
 |c a=>exact CC.ext h r
 |agg xs =>
  obtain ⟨vs,e,r⟩:=r;exact ⟨vs,e,r.mono fun _ _=>CC.ext h⟩
theorem AVR.ext{X:Cx}{E E':Env}(h:Ext X E E'){a:AV}{v:Value}(r:AVR X E a v):AVR X E' a v:=by
 cases a with
 |und=>trivial
 |skp=>exact r
 |v a=>exact A1R.ext h r
 |tup l =>
  obtain ⟨vs,e,r⟩:=r;exact ⟨vs,e,r.mono fun _ _=>A1R.ext h⟩
theorem EntR.ext{X:Cx}{E E':Env}(h:Ext X E E'){a:Ent}{v:MapEntry}(r:EntR X E a v):EntR X E' a v :=
 ⟨r.key.ext h,r.val.ext h,r.born⟩
theorem CC.one{X:Cx}{E:Env}{a:AC}{v:Value}(r:CC X E a v):One v:=by
 cases a with
 |r a=>cases a with
  |i x=>exact VR.one r
  |ptr=>exact r.1
  |sl=>exact r.1
  |map=>exact r.1
 |clo f caps=>obtain ⟨vs,rfl,_⟩:=r;rfl
theorem Ext.trans{X:Cx}{E E' E'':Env}(h:Ext X E E')(k:Ext X E' E'')(hs:E.w.heap.size≤E'.w.heap.size):Ext X E E'':=by
 refine ⟨Nat.le_trans h.ct k.ct,fun b g hg hc=>?_,fun t c hc ho=>?_⟩
 ·obtain ⟨q1,q2,q3⟩:=k.cur b g (Nat.lt_of_lt_of_le hg h.ct) hc
  obtain ⟨p1,p2,p3⟩:=h.cur b g hg q1;refine ⟨p1,q2.trans p2,fun cc e fr hcc=>?_⟩;obtain ⟨cc',e',fr',r1,r2⟩:=p3 cc e fr hcc;rw[p2] at q3;obtain ⟨cc'',e'',fr'',r3,r4⟩:=q3 cc' e' fr' r1;exact ⟨cc'',e'',fr'',r3,r4.trans r2⟩
 ·obtain ⟨q1,q2⟩:=h.ok t c hc ho
  obtain ⟨p1,p2⟩:=k.ok t c (Nat.lt_of_lt_of_le hc hs) q1;exact ⟨p1,p2.trans q2⟩
/- The abstract memory. -/
theorem Heap.get_set(h:Heap)(b:Nat)(y:Blk)(b':Nat):(h.set b y).get b'=if b'=b then some y else h.get b':=by
 induction h with
 |nil=>simp only[Heap.set,Heap.get];split<;>split<;>simp_all
 |cons p h ih =>
  obtain ⟨k,x⟩:=p;simp only[Heap.set];by_cases e:k=b
  ·subst e
   simp only[if_true,Heap.get];by_cases e':k=b'
   ·subst e';simp
   ·simp[e',Ne.symm e']
  ·simp only[if_neg e,Heap.get,ih]
   by_cases e':k=b'
   ·subst e';simp[e]
   ·simp[e']
theorem Heap.get_del(h:Heap)(b:Nat)(b':Nat):(h.del b).get b'=if b'=b then none else h.get b':=by
 induction h with
 |nil=>simp[Heap.del,Heap.get]
 |cons p h ih =>
  obtain ⟨k,x⟩:=p;simp only[Heap.del];by_cases e:k=b
  ·subst e
   simp only[if_true,ih,Heap.get];by_cases e':b'=k
   ·simp[e']
   ·simp[e',Ne.symm e']
  ·simp only[if_neg e,Heap.get,ih]
   by_cases e':k=b'
   ·subst e';simp[e]
   ·simp[e']
theorem Heap.get_delAll(bs:List Nat):∀ (h:Heap) (b:Nat),(delAll h bs).get b=if b∈bs then none else h.get b:=by
 induction bs with
 |nil=>intro h b;simp[delAll]
 |cons a bs ih =>
  intro h b;simp only[delAll,ih,Heap.get_del];by_cases e:b∈bs
  ·simp[e]
  ·by_cases e':b=a
   ·simp[e']
   ·simp[e,e']
theorem Heap.cur_set(h:Heap)(b:Nat)(y:Blk)(b':Nat):(h.set b y).cur b'=if b'=b then some y.gen else h.cur b':=by
 simp only[Heap.cur,Heap.get_set];split<;>rfl
theorem Heap.cur_of_get{h:Heap}{b:Nat}{x:Blk}(e:h.get b=some x):h.cur b=some x.gen:=by simp[Heap.cur,e]
theorem Heap.row_eq{h:Heap}{b g:Nat}{cs:List AC}(e:h.row b g=some cs):h.get b=some (.cells g cs)∧h.cur b=some g:=by
 unfold Heap.row at e;split at e
 ·rename_i g' cs' hg
  split at e
  ·rename_i eg;subst eg;simp at e;subst e;exact ⟨hg,by simp[Heap.cur,hg,Blk.gen]⟩
  ·simp at e
 ·simp at e
theorem Heap.mapAt_eq{h:Heap}{b g:Nat}{es:List Ent}{k:Nat}(e:h.mapAt b g=some (es,k)):h.get b=some (.map g es k)∧h.cur b=some g:=by
 unfold Heap.mapAt at e;split at e
 ·rename_i g' es' k' hg
  split at e
  ·rename_i eg;subst eg;simp at e;obtain ⟨rfl,rfl⟩:=e;exact ⟨hg,by simp[Heap.cur,hg,Blk.gen]⟩
  ·simp at e
 ·simp at e
end Go.Abs
namespace Go.Abs
open Go.RowKit
theorem BR.get{X:Cx}{E:Env}{b:Nat}{x:Blk}(h:BR X E b x):(E.m b).1<E.w.heap.size:=by
 cases x with
 |cells g cs=>obtain ⟨cc,e,fr,h,_⟩:=h;exact (Array.getElem?_eq_some_iff.1 h).1
 |map g es k=>obtain ⟨ces,h,_⟩:=h;exact (Array.getElem?_eq_some_iff.1 h).1
 |iter g s p=>obtain ⟨bs,h,_⟩:=h;exact (Array.getElem?_eq_some_iff.1 h).1
theorem BR.ext{X:Cx}{E E':Env}(h:Ext X E E'){b:Nat}{x:Blk}(hm:E'.m b=E.m b)(hw:E'.w.heap[(E.m b).1]?=E.w.heap[(E.m b).1]?)(r:BR X E b x):BR X E' b x:=by
 cases x with
 |cells g cs =>
  obtain ⟨cc,e,fr,h1,h2,h3,h4⟩:=r;refine ⟨cc,e,fr,by rw[hm,hw];exact h1,h2,by rw[hm];exact h3,fun i x hi hx=>?_⟩;rw[hm] at hi ⊢;obtain ⟨v,q1,q2⟩:=h4 i x hi hx;exact ⟨v,q1,q2.ext h⟩
 |map g es k =>
  obtain ⟨ces,h1,h2⟩:=r;exact ⟨ces,by rw[hm,hw];exact h1,h2.mono fun _ _=>EntR.ext h⟩
 |iter g s p =>
  obtain ⟨bs,h1,h2⟩:=r;exact ⟨bs,by rw[hm,hw];exact h1,h2⟩
theorem WR.lt{X:Cx}{E:Env}(h:WR X E){b:Nat}{x:Blk}(e:E.h.get b=some x):(E.m b).1<E.w.heap.size:=(h.blk b x e).1.get
structure Put(X:Cx)(E E':Env)(b:Nat)(x:Blk)(c0:Nat):Prop where
  h:E'.h=E.h.set b x
  ct:E.ct≤E'.ct
  gen:x.gen<E'.ct
  m:∀ b',b'≠b→E'.m b'=E.m b'
  size:E.w.heap.size≤E'.w.heap.size
  heap:∀ k,k<E.w.heap.size→k≠c0→E'.w.heap[k]?=E.w.heap[k]?
  c0:E.w.heap.size≤c0∨((E.h.get b).isSome=true∧c0=(E.m b).1)
  at_:E.w.heap.size≤(E'.m b).1∨((E.h.get b).isSome=true∧(E'.m b).1=(E.m b).1)
  old:x.gen<E.ct→E.h.cur b=some x.gen∧E'.m b=E.m b ∧
    ∀ cc e fr,E.w.heap[(E.m b).1]?=some (.cells cc e fr)→∃ cc' e' fr',E'.w.heap[(E.m b).1]?=some (.cells cc' e' fr')∧cc'.size=cc.size
  os:E'.w.os=E.w.os
  tape:E'.w.tape=E.w.tape
  output:E'.w.output=E.w.output
theorem Put.ext{X:Cx}{E E':Env}{b:Nat}{x:Blk}{c0:Nat}(p:Put X E E' b x c0)(hW:WR X E):Ext X E E':=by
 refine ⟨p.ct,fun b1 g hg hc=>?_,fun t c hc ho=>?_⟩
 ·rw[p.h,Heap.cur_set] at hc
  by_cases e:b1=b
  ·subst e
   simp at hc;subst hc;exact p.old hg
  ·rw[if_neg e] at hc
   refine ⟨hc,p.m b1 e,fun cc e' fr hcc=>⟨cc,e',fr,?_,rfl⟩⟩;rw[p.heap _ (Array.getElem?_eq_some_iff.1 hcc).1 ?_]
   ·exact hcc
   ·rcases p.c0 with h|⟨h1,h2⟩
    ·have:=(Array.getElem?_eq_some_iff.1 hcc).1;omega
    ·rw[h2]
     intro h3;refine e (hW.inj b1 b ?_ h1 h3);unfold Heap.cur at hc;cases hgb:E.h.get b1 with
     |none=>simp[hgb] at hc
     |some _=>rfl
 ·have hne:c≠c0:=by
   rcases p.c0 with h|⟨h1,h2⟩
   ·omega
   ·rintro rfl
    obtain ⟨y,hy⟩:=Option.isSome_iff_exists.1 h1;rcases ho with ⟨q1,q2⟩|⟨q1,q2⟩
    ·exact q2 (.inl ⟨b,h1,h2.symm⟩)
    ·have:=hW.f1 _ q2
     rcases (hW.blk b y hy).2.2 with h3|h3
     ·rw[← h2] at h3;omega
     ·rw[← h2] at h3;exact this.2 ⟨b,h3⟩
  refine ⟨?_,p.heap c hc hne⟩;rcases ho with ⟨q1,q2⟩|q
  ·refine .inl ⟨q1,?_⟩
   rintro (⟨b2,h1,h2⟩|hH)
   ·rw[p.h,Heap.get_set] at h1
    by_cases e:b2=b
    ·subst e
     rcases p.at_ with h3|⟨h3,h4⟩
     ·omega
     ·exact q2 (.inl ⟨b2,h3,by omega⟩)
    ·rw[if_neg e] at h1
     rw[p.m b2 e] at h2;exact q2 (.inl ⟨b2,h1,h2⟩)
   ·exact q2 (.inr hH)
  ·exact .inr q
theorem Put.wr{X:Cx}{E E':Env}{b:Nat}{x:Blk}{c0:Nat}(p:Put X E E' b x c0)(hW:WR X E)(hb:BR X E' b x):WR X E':=by
 have hE:=p.ext hW;refine ⟨fun b1 y hy=>?_,fun b1 b2 h1 h2 he=>?_,Nat.le_trans hW.size p.size,fun c hc hA=>?_,p.os.trans hW.os,p.tape.trans hW.tape,p.output.trans hW.output,hW.f1,hW.a0,fun c o hc=>by
  obtain ⟨g1,g2,g3⟩:=hW.hid c o hc;have hcs:c<E.w.heap.size:=(Array.getElem?_eq_some_iff.1 g1).1;refine ⟨?_,g2,?_⟩
  ·rw[p.heap c hcs ?_]
   ·exact g1
   ·rcases p.c0 with h|⟨h1,h2⟩
    ·omega
    ·rintro rfl;exact g3 ⟨b,h1,h2.symm⟩
  ·rintro ⟨b2,h1,h2⟩
   rw[p.h,Heap.get_set] at h1;by_cases e:b2=b
   ·subst e
    rcases p.at_ with h3|⟨h3,h4⟩
    ·omega
    ·exact g3 ⟨b2,h3,by omega⟩
   ·rw[if_neg e] at h1
    rw[p.m b2 e] at h2;exact g3 ⟨b2,h1,h2⟩⟩
 ·rw[p.h,Heap.get_set] at hy
  by_cases e:b1=b
  ·subst e
   simp at hy;subst hy;refine ⟨hb,p.gen,?_⟩;rcases p.at_ with h3|⟨h3,h4⟩
   ·exact .inl (Nat.le_trans hW.size h3)
   ·obtain ⟨y,hy⟩:=Option.isSome_iff_exists.1 h3
    rw[h4];exact (hW.blk b1 y hy).2.2
  ·rw[if_neg e] at hy
   obtain ⟨q1,q2,q3⟩:=hW.blk b1 y hy;refine ⟨q1.ext hE (p.m b1 e) (p.heap _ q1.get ?_),Nat.lt_of_lt_of_le q2 p.ct,by rw[p.m b1 e];exact q3⟩;rcases p.c0 with h|⟨h1,h2⟩
   ·have:=q1.get;omega
   ·rw[h2];intro h3;exact e (hW.inj b1 b (by simp[hy]) h1 h3)
 ·rw[p.h,Heap.get_set] at h1 h2
  by_cases e1:b1=b
  ·by_cases e2:b2=b
   ·rw[e1,e2]
   ·rw[if_neg e2] at h2
    subst e1;rw[p.m b2 e2] at he;obtain ⟨y,hy⟩:=Option.isSome_iff_exists.1 h2;rcases p.at_ with h3|⟨h3,h4⟩
    ·have:=hW.lt hy;omega
    ·exact hW.inj b1 b2 h3 h2 (by omega)
  ·rw[if_neg e1] at h1
   by_cases e2:b2=b
   ·subst e2
    rw[p.m b1 e1] at he;obtain ⟨y,hy⟩:=Option.isSome_iff_exists.1 h1;rcases p.at_ with h3|⟨h3,h4⟩
    ·have:=hW.lt hy;omega
    ·exact hW.inj b1 b2 h1 h3 (by omega)
   ·rw[if_neg e2] at h2
    rw[p.m b1 e1,p.m b2 e2] at he;exact hW.inj b1 b2 h1 h2 he
 ·have hlt:=Nat.lt_of_lt_of_le hc hW.size
  rw[p.heap c hlt ?_]
  ·exact hW.still c hc hA
  ·rcases p.c0 with h|⟨h1,h2⟩
   ·omega
   ·rintro rfl
    obtain ⟨y,hy⟩:=Option.isSome_iff_exists.1 h1;rcases (hW.blk b y hy).2.2 with h3|h3
    ·omega
    ·rw[← h2] at h3;exact hA ⟨b,h3⟩
structure Same(E E':Env):Prop where
  h:E'.h=E.h
  ct:E'.ct=E.ct
  m:E'.m=E.m
  size:E.w.heap.size≤E'.w.heap.size
  heap:∀ k,k<E.w.heap.size→E'.w.heap[k]?=E.w.heap[k]?
  os:E'.w.os=E.w.os
  tape:E'.w.tape=E.w.tape
  output:E'.w.output=E.w.output
theorem Same.ext{X:Cx}{E E':Env}(p:Same E E'):Ext X E E':=by
 refine ⟨by rw[p.ct];exact Nat.le_refl _,fun b g hg hc=>?_,fun t c hc ho=>?_⟩
 ·rw[p.h] at hc
  refine ⟨hc,by rw[p.m],fun cc e fr hcc=>⟨cc,e,fr,?_,rfl⟩⟩;rw[p.heap _ (Array.getElem?_eq_some_iff.1 hcc).1];exact hcc
 ·refine ⟨?_,p.heap c hc⟩
  rcases ho with ⟨q1,q2⟩|q
  ·refine .inl ⟨q1,?_⟩
   rintro (⟨b2,h1,h2⟩|hH)
   ·rw[p.h] at h1;rw[p.m] at h2
    exact q2 (.inl ⟨b2,h1,h2⟩)
   ·exact q2 (.inr hH)
  ·exact .inr q
theorem Same.wr{X:Cx}{E E':Env}(p:Same E E')(hW:WR X E):WR X E':=by
 refine ⟨fun b1 y hy=>?_,fun b1 b2 h1 h2 he=>?_,Nat.le_trans hW.size p.size,fun c hc hA=>?_,p.os.trans hW.os,p.tape.trans hW.tape,p.output.trans hW.output,hW.f1,hW.a0,fun c o hc=>by
  obtain ⟨g1,g2,g3⟩:=hW.hid c o hc;refine ⟨by rw[p.heap c (Array.getElem?_eq_some_iff.1 g1).1];exact g1,g2,?_⟩;rintro ⟨b2,h1,h2⟩;rw[p.h] at h1;rw[p.m] at h2;exact g3 ⟨b2,h1,h2⟩⟩
 ·rw[p.h] at hy
  obtain ⟨q1,q2,q3⟩:=hW.blk b1 y hy;exact ⟨q1.ext p.ext (by rw[p.m]) (p.heap _ q1.get),by rw[p.ct];exact q2,by rw[p.m];exact q3⟩
 ·rw[p.h] at h1 h2;rw[p.m] at he;exact hW.inj b1 b2 h1 h2 he
 ·rw[p.heap c (Nat.lt_of_lt_of_le hc hW.size)];exact hW.still c hc hA
theorem Drop.ext(X:Cx)(E:Env)(bs:List Nat):Ext X E {E with h:=delAll E.h bs}:=by
 refine ⟨Nat.le_refl _,fun b g hg hc=>⟨?_,rfl,fun cc e fr hcc=>⟨cc,e,fr,hcc,rfl⟩⟩,fun t c hc ho=>⟨?_,rfl⟩⟩
 ·simp only[Heap.cur,Heap.get_delAll] at hc ⊢
  split at hc
  ·simp at hc
  ·exact hc
 ·rcases ho with ⟨q1,q2⟩|q
  ·refine .inl ⟨q1,?_⟩
   rintro (⟨b2,h1,h2⟩|hH)
   ·simp only[Heap.get_delAll] at h1
    split at h1
    ·simp at h1
    ·exact q2 (.inl ⟨b2,h1,h2⟩)
   ·exact q2 (.inr hH)
  ·exact .inr q
theorem Drop.wr{X:Cx}{E:Env}(bs:List Nat)(hW:WR X E):WR X {E with h:=delAll E.h bs}:=by
 refine ⟨fun b1 y hy=>?_,fun b1 b2 h1 h2 he=>?_,hW.size,hW.still,hW.os,hW.tape,hW.output,hW.f1,hW.a0,fun c o hc=>by
  obtain ⟨g1,g2,g3⟩:=hW.hid c o hc;refine ⟨g1,g2,?_⟩;rintro ⟨b2,h1,h2⟩;simp only[Heap.get_delAll] at h1;split at h1
  ·simp at h1
  ·exact g3 ⟨b2,h1,h2⟩⟩
 ·simp only[Heap.get_delAll] at hy
  split at hy
  ·simp at hy
  ·obtain ⟨q1,q2,q3⟩:=hW.blk b1 y hy
   exact ⟨q1.ext (Drop.ext X E bs) rfl rfl,q2,q3⟩
 ·simp only[Heap.get_delAll] at h1 h2
  split at h1
  ·simp at h1
  ·split at h2
   ·simp at h2
   ·exact hW.inj b1 b2 h1 h2 he
theorem rd_sound{X:Cx}{E:Env}(hW:WR X E)(q:Nat→Bool)(t:Nat)(p:Nat→Nat→Prop)(hp:∀ t c,c<E.w.heap.size→okc X E t c→p t c)
  (hq:∀ b x,q b=true→E.h.get b=some x→p t (E.m b).1):∀ (n:Nat) (x:AC) (v:Value) (iv:IV),CC X E x v→rd q E.h t n x=some iv→VR p E.w.heap iv v:=by
 have hmono:∀ {y:IV} {v:Value},VR (okc X E) E.w.heap y v→VR p E.w.heap y v:=fun r=>r.mono fun t c hc ho=>⟨hp t c hc ho,rfl⟩;have hcaps:∀ (caps:List AR) (ivs:List IV) (vs:List Value),All2 (RR X E) caps vs→traverse inlR caps=some ivs→All2 (VR p E.w.heap) ivs vs:=by
  intro caps ivs vs h e;refine h.of_traverse (fun a b c r e=>?_) e;cases a<;>simp[inlR] at e
  subst e;exact hmono r
 intro n;induction n with
 |zero =>
  intro x v iv h e;cases x with
  |r a=>cases a with
   |i y=>simp[rd] at e;subst e;exact hmono h
   |_=>simp[rd] at e
  |clo f caps=>simp[rd] at e
 |succ n ih =>
  intro x v iv h e;cases x with
  |r a=>cases a with
   |i y=>simp[rd] at e;subst e;exact hmono h
   |ptr b g off =>
    simp only[rd] at e;split at e
    ·rename_i hqb
     split at e
     ·simp at e
     ·rename_i cs hrow
      split at e
      ·simp at e
      ·rename_i vs hvs
       simp at e;subst e;obtain ⟨hget,hcur⟩:=Heap.row_eq hrow;obtain ⟨h1,h2,h3⟩:=h;obtain ⟨h4,rfl⟩:=h3 hcur;obtain ⟨⟨cc,e,fr,r1,r2,r3,r4⟩,_,_⟩:=hW.blk b _ hget;have htl:=traverse_length hvs;have hfit:cs.length-off≤cc.size-(off-(E.m b).2):=by
        rcases Nat.lt_or_ge off cs.length with hlt|hge
        ·obtain ⟨v',q1,_⟩:=r4 (cs.length-1) cs[cs.length-1] (by omega) (by simp)
         have:=(Array.getElem?_eq_some_iff.1 q1).1
         omega
        ·omega
       refine .lp t vs (E.m b).1 (off-(E.m b).2) cc e fr ((cc.toList.drop (off-(E.m b).2)).take (cs.length-off)) (hq b _ hqb hget) r1 ?_ ?_ ?_
       ·rw[htl];simp;omega
       ·intro i v hv
        rw[List.getElem?_take] at hv;split at hv
        ·rw[List.getElem?_drop] at hv;simpa using hv
        ·simp at hv
       ·intro i x v hx hv
        obtain ⟨y,hy,hry⟩:=traverse_get hvs i x hx;rw[List.getElem?_drop] at hy;rw[List.getElem?_take] at hv;split at hv
        ·rw[List.getElem?_drop] at hv
         obtain ⟨v',q1,q2⟩:=r4 (off+i) y (by omega) hy;have:off+i-(E.m b).2=off-(E.m b).2+i:=by omega
         rw[this] at q1;have hv':v'=v:=by
          have h9:cc[off-(E.m b).2+i]?=some v:=by simpa using hv
          rw[q1] at h9;simpa using h9
         subst hv';exact ih y v' x q2 hry
        ·simp at hv
    ·simp at e
   |map=>simp[rd] at e
   |sl b g off sz len =>
    simp only[rd] at e;split at e
    ·rename_i hqb
     split at e
     ·simp at e
     ·rename_i cs hrow
      split at e
      ·rename_i hlen
       split at e
       ·simp at e
       ·rename_i vs hvs
        simp at e;subst e;obtain ⟨hget,hcur⟩:=Heap.row_eq hrow;obtain ⟨h1,h2,h3⟩:=h;obtain ⟨h4,h5⟩:=h3 hcur;obtain ⟨⟨cc,e,fr,r1,r2,r3,r4⟩,_,_⟩:=hW.blk b _ hget;rcases h5 with ⟨cap,rfl,h6,cs',e',fr',h7,h8⟩|⟨rfl,a,rfl⟩
        ·rw[r1] at h7
         have hcc:cc=cs':=by injection h7 with h7;injection h7
         subst hcc;have hl:((cs.drop off).take (len*sz)).length=len*sz:=by simp;omega
         have htl:=traverse_length hvs;have hfit:off-(E.m b).2+len*sz≤cc.size:=by
          rw[← h8];have:len*sz≤cap*sz:=Nat.mul_le_mul_right sz h6;omega
         refine .lit t vs len (E.m b).1 (off-(E.m b).2) cap cc e fr ((cc.toList.drop (off-(E.m b).2)).take (len*sz)) (hq b _ hqb hget) r1 ?_ ?_ ?_ h6
         ·rw[htl,hl];simp;omega
         ·intro i v hv
          rw[List.getElem?_take] at hv;split at hv
          ·rw[List.getElem?_drop] at hv;simpa using hv
          ·simp at hv
         ·intro i x v hx hv
          obtain ⟨y,hy,hry⟩:=traverse_get hvs i x hx;rw[List.getElem?_take] at hy hv;split at hy
          ·rename_i hi
           rw[if_pos hi] at hv;rw[List.getElem?_drop] at hy hv;obtain ⟨v',q1,q2⟩:=r4 (off+i) y (by omega) hy;have:off+i-(E.m b).2=off-(E.m b).2+i:=by omega
           rw[this] at q1;have hv':v'=v:=by
            have h9:cc[off-(E.m b).2+i]?=some v:=by simpa using hv
            rw[q1] at h9;simpa using h9
           subst hv';exact ih y v' x q2 hry
          ·simp at hy
        ·simp at hvs
         simp[traverse] at hvs;subst hvs;exact .lit0 t 0 0 a (Nat.le_refl _)
      ·simp at e
    ·simp at e
  |clo f caps =>
   obtain ⟨vs,rfl,r⟩:=h;simp only[rd] at e;split at e
   ·simp at e
   ·rename_i ivs hivs
    simp at e;subst e;have h2:=hcaps caps ivs vs r hivs;refine .clo f ivs vs h2.length fun i x v hx hv=>?_;obtain ⟨b,hb,hr⟩:=h2.get i x hx;rw[hv] at hb;simp at hb;subst hb;exact hr
def OpOk(P:Program)(X:Cx)(E:Env)(o:Oper)(ρ:Operand→Value)(v:AV)(h':Heap)(ct':Nat):Prop :=
  ∃ E' nx,(execOp ρ o).run P E.w=.ok nx E'.w∧E'.h=h'∧E'.ct=ct'∧WR X E'∧Ext X E E'∧E.w.heap.size≤E'.w.heap.size ∧
    ((∃ x,nx=.value x∧AVR X E' v x)∨(nx=.skip∧v=.und))
theorem OpOk.pure{P:Program}{X:Cx}{E:Env}{o:Oper}{ρ:Operand→Value}{v:AV}{x:Value}(hW:WR X E)
  (hr:(execOp ρ o).run P E.w=.ok (.value x) E.w) (hv:AVR X E v x):OpOk P X E o ρ v E.h E.ct :=
 ⟨E,.value x,hr,rfl,rfl,hW,Ext.refl X E,Nat.le_refl _,.inl ⟨x,rfl,hv⟩⟩
theorem OpOk.put{P:Program}{X:Cx}{E E':Env}{o:Oper}{ρ:Operand→Value}{v:AV}{x:Value}{b:Nat}{y:Blk}{c0:Nat}(hW:WR X E)
  (p:Put X E E' b y c0) (hr:(execOp ρ o).run P E.w=.ok (.value x) E'.w) (hb:BR X E' b y) (hv:AVR X E' v x):OpOk P X E o ρ v (E.h.set b y) E'.ct :=
 ⟨E',.value x,hr,p.h,rfl,p.wr hW hb,p.ext hW,p.size,.inl ⟨x,rfl,hv⟩⟩
theorem OpOk.putU{P:Program}{X:Cx}{E E':Env}{o:Oper}{ρ:Operand→Value}{b:Nat}{y:Blk}{c0:Nat}(hW:WR X E)
  (p:Put X E E' b y c0) (hr:(execOp ρ o).run P E.w=.ok .skip E'.w) (hb:BR X E' b y):OpOk P X E o ρ .und (E.h.set b y) E'.ct :=
 ⟨E',.skip,hr,p.h,rfl,p.wr hW hb,p.ext hW,p.size,.inr ⟨rfl,rfl⟩⟩
def Env.new(E:Env)(d:Nat)(x:Blk)(w:World):Env:={h:=E.h.set d x,m:=fun b=>if b=d then (E.w.heap.size,0) else E.m b,ct:=E.ct+1,w}
theorem Put.new(X:Cx)(E:Env)(d:Nat)(x:Blk)(w:World)(hg:x.gen=E.ct)(hs:E.w.heap.size≤w.heap.size)(hh:∀ k,k<E.w.heap.size→w.heap[k]?=E.w.heap[k]?)
  (ho:w.os=E.w.os) (ht:w.tape=E.w.tape) (hu:w.output=E.w.output):Put X E (E.new d x w) d x E.w.heap.size where
 h:=rfl
 ct:=Nat.le_succ _
 gen:=by rw[hg];exact Nat.lt_succ_self _
 m:=fun b' hb=>by simp[Env.new,hb]
 size:=hs
 heap:=fun k hk _=>hh k hk
 c0:=.inl (Nat.le_refl _)
 at_:=.inl (by simp[Env.new])
 old:=fun h=>by omega
 os:=ho
 tape:=ht
 output:=hu
/- The check of operands,constants,types. -/
def constIV:Value→IV→Bool
  |.bool a,.bool b=>a==b
  |.int k n,.int k' m=>k==k'&&n==m
  |.string s,.str l=>s.data.toList==l
  |.pointer none,.nilP=>true
  |.slice none n c,.nilS=>n==0&&c==0
  |.map none,.nilM=>true
  |.nilFunc,.nilF=>true
  |.nilIface,.nilI=>true
  |_,_=>false
def constIVs:List Value→List IV→Bool
  |[],[]=>true
  |v::l,x::m=>constIV v x&&constIVs l m
  |_,_=>false
def okOpd:Operand→Opd→Bool
  |.tmp n,.t m=>n==m
  |.const (.agg cs),.ca l=>constIVs cs.toList l
  |.const v,.c x=>constIV v x
  |.global g,.c (.gp g' o)=>g==g'&&o==0
  |.func f,.c (.clo f' l)=>f==f'&&l.isEmpty
  |_,_=>false
def aggD:TypeDesc→Bool
  |.struct _|.array _ _=>true
  |_=>false
def tyOk(P:Program)(t n:Nat)(agg:Bool):Bool :=
  match P.info? t,P.underlying t with
  |some i,some d=>i.size==n&&aggD d==agg&&(agg||n==1)
  |_,_=>false
theorem constIV_sound{p:Nat→Nat→Prop}{h:Array Obj}{v:Value}{x:IV}(e:constIV v x=true):VR p h x v:=by
 unfold constIV at e;split at e
 ·simp at e;subst e;exact .bool _
 ·simp at e;obtain ⟨rfl,rfl⟩:=e;exact .int _ _
 ·simp at e;exact .str _ _ e
 ·exact .nilP
 ·simp at e;obtain ⟨rfl,rfl⟩:=e;exact .nilS
 ·exact .nilM
 ·exact .nilF
 ·exact .nilI
 ·simp at e
theorem constIVs_sound{p:Nat→Nat→Prop}{h:Array Obj}:∀ {v:List Value} {x:List IV},constIVs v x=true→All2 (VR p h) x v
 |[],[],_=>.nil
 |v::l,x::m,e=>by
  simp[constIVs] at e
  exact .cons (constIV_sound e.1) (constIVs_sound e.2)
 |[],_::_,e=>by simp[constIVs] at e
 |_::_,[],e=>by simp[constIVs] at e
structure TR(X:Cx)(E:Env)(s:St)(a:Act):Prop where
  defers:a.defers=[]
  size:a.tmps.size=s.tm.length
  at_:∀ (i:Nat) (v:AV),s.tm[i]?=some v→AVR X E v (a.tmps.getD i undef)
theorem ev_sound{X:Cx}{E:Env}{s:St}{a:Act}(hT:TR X E s a){x:Operand}{y:Opd}(e:okOpd x y=true):AVR X E (ev s y) (a.eval x):=by
 unfold okOpd at e;split at e
 ·rename_i n m
  simp at e;subst e;show AVR X E (s.get n) (a.tmps.getD n undef);unfold St.get;rw[List.getD_eq_getElem?_getD];cases h:s.tm[n]? with
  |none=>trivial
  |some v=>exact hT.at_ n v h
 ·rename_i cs l
  refine ⟨cs.toList,by simp[Act.eval],(constIVs_sound (p:=okc X E) (h:=E.w.heap) e).map I fun _ _ r=>r⟩
 ·exact constIV_sound (p:=okc X E) (h:=E.w.heap) e
 ·simp at e
  obtain ⟨rfl,rfl⟩:=e;exact VR.gp _ _
 ·simp at e
  obtain ⟨rfl,rfl⟩:=e;exact VR.clo _ [] [] rfl (by simp)
 ·simp at e
theorem bool_sound{X:Cx}{E:Env}{v:AV}{x:Value}{b:Bool}(r:AVR X E v x)(e:v.bool=some b):x=.bool b:=by
 unfold AV.bool at e;split at e
 ·simp at e;subst e;cases r;rfl
 ·simp at e
theorem int_sound{X:Cx}{E:Env}{v:AV}{x:Value}{k:IntKind}{n:Int}(r:AVR X E v x)(e:v.int=some (k,n)):x=.int k n:=by
 unfold AV.int at e;split at e
 ·simp at e;obtain ⟨rfl,rfl⟩:=e;cases r;rfl
 ·simp at e
theorem nat_sound{X:Cx}{E:Env}{v:AV}{x:Value}{n:Nat}(r:AVR X E v x)(e:v.nat=some n):∃ k,x=.int k (n:Int):=by
 unfold AV.nat at e;split at e
 ·rename_i k m hm
  split at e
  ·simp at e;subst e
   refine ⟨k,?_⟩;rw[int_sound r hm];congr 1;omega
  ·simp at e
 ·simp at e
theorem str_sound{X:Cx}{E:Env}{v:AV}{x:Value}{l:List UInt8}(r:AVR X E v x)(e:v.strv=some l):∃ s:ByteArray,x=.string s∧s.data.toList=l:=by
 unfold AV.strv at e;split at e
 ·simp at e;subst e;cases r;exact ⟨_,rfl,by assumption⟩
 ·simp at e
def valOf(agg:Bool)(vs:List Value):Value:=if agg then .agg vs.toArray else vs.headD undef
theorem mk1_sound{X:Cx}{E:Env}{agg:Bool}{cs:List AC}{a1:A1}{vs:List Value}(r:All2 (CC X E) cs vs)(e:mk1 agg cs=some a1):A1R X E a1 (valOf agg vs):=by
 unfold mk1 at e;split at e
 ·rename_i h
  simp at e;subst e;exact ⟨vs,by simp[valOf,h],r⟩
 ·rename_i h
  split at e
  ·simp at e;subst e
   cases r with
   |cons h1 h2 =>
    cases h2
    have e:∀ b:Value,valOf agg [b]=b:=fun b=>by simp[valOf,h]
    rw[e];exact h1
  ·simp at e
theorem takeN_sound{n:Nat}{cs cs':List AC}(e:takeN n cs=some cs'):n≤cs.length∧cs'=cs.take n:=by
 unfold takeN at e;split at e
 ·simp at e;exact ⟨by assumption,e.symm⟩
 ·simp at e
theorem cells_sound{X:Cx}{E:Env}{a1:A1}{v:Value}(r:A1R X E a1 v):All2 (CC X E) a1.cells v.cells.toList:=by
 cases a1 with
 |c x =>
  have h1:=CC.one r;have:v.cells=#[v]:=by cases v<;>first|rfl|(simp[One,Value.oneCell'] at h1)
  rw[this];exact .cons r .nil
 |agg xs =>
  obtain ⟨vs,rfl,h⟩:=r;simpa[Value.cells,A1.cells] using h
section
variable {P:Program} {X:Cx} {E:Env}
theorem tyOk_parts{t n:Nat}{agg:Bool}(h:tyOk P t n agg=true):∃ i d,P.info? t=some i∧P.underlying t=some d∧i.size=n∧aggD d=agg∧(agg=true∨n=1):=by
 unfold tyOk at h;split at h
 ·rename_i i d hi hd
  simp at h;exact ⟨i,d,hi,hd,h.1.1,h.1.2,h.2⟩
 ·simp at h
theorem run_isAgg{t n:Nat}{agg:Bool}(h:tyOk P t n agg=true)(w:World):(isAgg t).run P w=.ok agg w:=by
 obtain ⟨i,d,hi,hd,_,h2,_⟩:=tyOk_parts h;subst h2;cases d<;>simp[isAgg,run_underlying hd,aggD]
theorem run_size{t n:Nat}{agg:Bool}(h:tyOk P t n agg=true)(w:World):(sizeOf t).run P w=.ok n w:=by
 obtain ⟨i,d,hi,hd,h1,_,_⟩:=tyOk_parts h;subst h1;simp[sizeOf,typeInfo,hi]
theorem run_part_cells{t n:Nat}{agg:Bool}(h:tyOk P t n agg=true)(w:World)(cs:Array Value)(off:Nat)(hl:n=0∨off+n≤cs.size) :
  (part t cs off).run P w=.ok (valOf agg ((cs.toList.drop off).take n)) w:=by
 have h1:=run_isAgg h w;have h2:=run_size h w;obtain ⟨_,_,_,_,_,_,h3⟩:=tyOk_parts h;cases agg with
 |true =>
  simp only[part,Sem.run_bind,h1,Result.andThen,if_true,h2,Sem.run_pure];have e:cs.extract off (off+n)=((cs.toList.drop off).take n).toArray:=by
   apply Array.ext';simp[List.take_drop]
  rw[e];rfl
 |false =>
  simp at h3;subst h3;have hlt:off<cs.size:=by omega
  simp only[part,Sem.run_bind,h1,Result.andThen,Bool.false_eq_true,if_false];rw[Array.getElem?_eq_getElem hlt];simp only[Sem.run_pure];congr 1;simp[valOf,List.drop_eq_getElem_cons (l:=cs.toList) (i:=off) (by simpa using hlt)]
theorem addr_add(c o j:Nat):(⟨c,o,none⟩:Addr).add j=⟨c,o+j,none⟩:=by unfold Addr.add;split<;>simp_all
theorem run_loadVar_cells{t n:Nat}{agg:Bool}(h:tyOk P t n agg=true)(w:World)(a:Addr)(vs:List Value)(hl:vs.length=n)
  (hv:∀ (j:Nat) (v:Value),vs[j]?=some v→w.cell? (a.add j)=some v):(loadVar t a).run P w=.ok (valOf agg vs) w:=by
 have h1:=run_isAgg h w;have h2:=run_size h w;obtain ⟨_,_,_,_,_,_,h3⟩:=tyOk_parts h;have h4:=run_loadCells_list (P:=P) w a vs hv;cases agg with
 |true =>
  simp only[loadVar,Sem.run_bind,h1,Result.andThen,if_true,h2,← hl,h4,Sem.run_pure];simp[valOf]
 |false =>
  simp at h3;subst h3;match vs,hl,hv with
  |[v],_,hv =>
   have h5:=hv 0 v rfl;have:a.add 0=a:=by simp[Addr.add]
   rw[this] at h5;simp only[loadVar,Sem.run_bind,h1,Result.andThen,Bool.false_eq_true,if_false,run_load,h5];simp[valOf]
theorem cell_of_heap{w:World}{c o:Nat}{cs:Array Value}{e:TypeId}{fr:Nat×Nat}(h:w.heap[c]?=some (.cells cs e fr)):w.cell? ⟨c,o,none⟩=cs[o]?:=by
 simp[World.cell?,h]
theorem sl_view(hW:WR X E){b g off sz len:Nat}{x:Value}{cs:List AC}(r:RR X E (.sl b g off sz len) x)(hrow:E.h.row b g=some cs)(hl:off+len*sz≤cs.length) :
  ∃ a cap vs,x=.slice (some a) len cap∧len≤cap∧vs.length=len*sz∧All2 (CC X E) ((cs.drop off).take (len*sz)) vs∧∀ (j:Nat) (v:Value),vs[j]?=some v→E.w.cell? (a.add j)=some v:=by
 obtain ⟨hget,hcur⟩:=Heap.row_eq hrow;obtain ⟨h1,h2,h3⟩:=r;obtain ⟨h4,h5⟩:=h3 hcur;obtain ⟨⟨cc,e,fr,r1,r2,r3,r4⟩,_,_⟩:=hW.blk b _ hget;rcases h5 with ⟨cap,rfl,h6,cs',e',fr',h7,h8⟩|⟨rfl,a,rfl⟩
 ·rw[r1] at h7
  have hcc:cc=cs':=by injection h7 with h7;injection h7
  subst hcc;have hfit:off-(E.m b).2+len*sz≤cc.size:=by
   rw[← h8];have:len*sz≤cap*sz:=Nat.mul_le_mul_right sz h6;omega
  refine ⟨_,cap,(cc.toList.drop (off-(E.m b).2)).take (len*sz),rfl,h6,by simp;omega,?_,?_⟩
  ·refine All2.of_get (by simp;omega) fun i y v hy hv=>?_
   rw[List.getElem?_take] at hy hv;split at hy
   ·rename_i hi
    rw[if_pos hi] at hv;rw[List.getElem?_drop] at hy hv;obtain ⟨v',q1,q2⟩:=r4 (off+i) y (by omega) hy;have:off+i-(E.m b).2=off-(E.m b).2+i:=by omega
    rw[this] at q1;have h9:cc[off-(E.m b).2+i]?=some v:=by simpa using hv
    rw[q1] at h9;simp at h9;subst h9;exact q2
   ·simp at hy
  ·intro j v hv
   rw[List.getElem?_take] at hv;split at hv
   ·rw[List.getElem?_drop] at hv
    rw[addr_add,cell_of_heap r1];simpa using hv
   ·simp at hv
 ·refine ⟨a,0,[],rfl,Nat.le_refl _,by simp,by simp;exact .nil,by simp⟩
theorem lit_view{p:Nat→Nat→Prop}{w:World}{t len:Nat}{cells:List IV}{x:Value}(r:VR p w.heap (.lit t cells len) x) :
  ∃ a cap vs,x=.slice (some a) len cap∧len≤cap∧All2 (VR p w.heap) cells vs∧∀ (j:Nat) (v:Value),vs[j]?=some v→w.cell? (a.add j)=some v:=by
 cases r with
 |lit _ _ _ c o cap cs e fr vs h1 h2 h3 h4 h5 h6 =>
  refine ⟨_,cap,vs,rfl,h6,All2.of_get h3 h5,fun j v hv=>?_⟩;rw[addr_add,cell_of_heap h2];exact h4 j v hv
 |lit0 _ _ cap a h=>exact ⟨a,cap,[],rfl,h,.nil,by simp⟩
theorem lp_view{p:Nat→Nat→Prop}{w:World}{t:Nat}{cells:List IV}{x:Value}(r:VR p w.heap (.lp t cells) x) :
  ∃ a vs,x=.pointer (some a)∧All2 (VR p w.heap) cells vs∧∀ (j:Nat) (v:Value),vs[j]?=some v→w.cell? (a.add j)=some v:=by
 cases r with
 |lp _ _ c o cs e fr vs h1 h2 h3 h4 h5 =>
  refine ⟨_,vs,rfl,All2.of_get h3 h5,fun j v hv=>?_⟩;rw[addr_add,cell_of_heap h2];exact h4 j v hv
 |lp0 _ a=>exact ⟨a,[],rfl,.nil,by simp⟩
def GOk(X:Cx)(G:Nat→List IV):Prop :=
  ∀ g,G g≠[]→g<X.w0.heap.size∧¬ X.A g∧∃ cc e fr,X.w0.heap[g]?=some (.cells cc e fr)∧∀ (i:Nat) (x:IV),(G g)[i]?=some x→∃ v,cc[i]?=some v∧∀ (p:Nat→Nat→Prop) (h:Array Obj),VR p h x v
theorem look_view(hW:WR X E){G:Nat→List IV}(hG:GOk X G){p:AC}{x:Value}{cells cs:List AC}{n:Nat}(r:CC X E p x)(e:lookAt G E.h p=some cells)(ht:takeN n cells=some cs) :
  ∃ a vs,x=.pointer (some a)∧vs.length=n∧All2 (CC X E) cs vs∧∀ (j:Nat) (v:Value),vs[j]?=some v→E.w.cell? (a.add j)=some v:=by
 obtain ⟨hn,rfl⟩:=takeN_sound ht;unfold lookAt at e;split at e
 ·simp at e
  subst e;obtain ⟨a,vs,rfl,h1,h2⟩:=lp_view (w:=E.w) r;have h3:=h1.map (S:=CC X E) I fun _ _ r=>r;refine ⟨a,vs.take n,rfl,?_,h3.take n,fun j v hv=>?_⟩
  ·have:=h3.length;simp at this hn ⊢;omega
  ·rw[List.getElem?_take] at hv
   split at hv
   ·exact h2 j v hv
   ·simp at hv
 ·rename_i g off
  simp at e;subst e;cases r
  by_cases hg:G g=[]
  ·have:n=0:=by simp[hg] at hn;exact hn
   subst this;exact ⟨_,[],rfl,rfl,by simp;exact .nil,by simp⟩
  ·obtain ⟨h1,h2,cc,e,fr,h3,h4⟩:=hG g hg
   have h5:E.w.heap[g]?=some (.cells cc e fr):=by rw[hW.still g h1 h2];exact h3
   have hall:∀ k,k<(G g).length→k<cc.size:=by
    intro k hk;obtain ⟨v,hv,_⟩:=h4 k (G g)[k] (by simp[hk]);exact (Array.getElem?_eq_some_iff.1 hv).1
   simp at hn;refine ⟨_,(cc.toList.drop off).take n,rfl,?_,?_,fun j v hv=>?_⟩
   ·rcases Nat.eq_zero_or_pos n with h0|h0
    ·simp[h0]
    ·have:=hall (off+n-1) (by omega)
     simp;omega
   ·refine All2.of_get ?_ fun i y v hy hv=>?_
    ·rcases Nat.eq_zero_or_pos n with h0|h0
     ·simp[h0]
     ·have:=hall (off+n-1) (by omega)
      simp;omega
    ·rw[List.getElem?_take] at hy hv
     split at hy
     ·rename_i hi
      rw[if_pos hi] at hv;rw[List.getElem?_drop,List.getElem?_map] at hy;rw[List.getElem?_drop] at hv;cases hq:(G g)[off+i]? with
      |none=>simp[hq] at hy
      |some z =>
       simp[hq] at hy;subst hy;obtain ⟨v',q1,q2⟩:=h4 (off+i) z hq;have h9:cc[off+i]?=some v:=by simpa using hv
       rw[q1] at h9;simp at h9;subst h9;exact q2 _ _
     ·simp at hy
   ·rw[List.getElem?_take] at hv
    split at hv
    ·rw[List.getElem?_drop] at hv
     rw[addr_add,cell_of_heap h5];simpa using hv
    ·simp at hv
 ·rename_i b g off
  split at e
  ·rename_i cs0 hrow
   simp at e;subst e;obtain ⟨hget,hcur⟩:=Heap.row_eq hrow;obtain ⟨h1,h2,h3⟩:=r;obtain ⟨h4,rfl⟩:=h3 hcur;obtain ⟨⟨cc,e,fr,r1,r2,r3,r4⟩,_,_⟩:=hW.blk b _ hget;simp at hn;have hall:∀ k,off≤k→k<cs0.length→k-(E.m b).2<cc.size:=by
    intro k hk0 hk;obtain ⟨v,hv,_⟩:=r4 k cs0[k] (by omega) (by simp[hk]);exact (Array.getElem?_eq_some_iff.1 hv).1
   have hlen:((cc.toList.drop (off-(E.m b).2)).take n).length=n:=by
    rcases Nat.eq_zero_or_pos n with h0|h0
    ·simp[h0]
    ·have:=hall (off+n-1) (by omega) (by omega)
     simp;omega
   refine ⟨_,(cc.toList.drop (off-(E.m b).2)).take n,rfl,hlen,?_,fun j v hv=>?_⟩
   ·refine All2.of_get (by rw[hlen];simp;omega) fun i y v hy hv=>?_
    rw[List.getElem?_take] at hy hv;split at hy
    ·rename_i hi
     rw[if_pos hi] at hv;rw[List.getElem?_drop] at hy hv;obtain ⟨v',q1,q2⟩:=r4 (off+i) y (by omega) hy;have:off+i-(E.m b).2=off-(E.m b).2+i:=by omega
     rw[this] at q1;have h9:cc[off-(E.m b).2+i]?=some v:=by simpa using hv
     rw[q1] at h9;simp at h9;subst h9;exact q2
    ·simp at hy
   ·rw[List.getElem?_take] at hv
    split at hv
    ·rw[List.getElem?_drop] at hv
     rw[addr_add,cell_of_heap r1];simpa using hv
    ·simp at hv
  ·simp at e
 ·simp at e
end
section
variable {P:Program} {X:Cx} {E:Env} {s:St} {a:Act} {o:Oper} {G:Nat→List IV} {d:Nat} {v:AV} {h':Heap} {c':Nat}
theorem okv_eq{i:Option IV}(e:okv s i=some (v,h',c')):∃ y,i=some y∧v=V y∧h'=s.hp∧c'=s.ct:=by
 cases i with
 |none=>simp[okv] at e
 |some y=>simp[okv] at e;exact ⟨y,rfl,e.1.symm,e.2.1.symm,e.2.2.symm⟩
theorem ok1_eq{i:Option A1}(e:ok1 s i=some (v,h',c')):∃ y,i=some y∧v=.v y∧h'=s.hp∧c'=s.ct:=by
 cases i with
 |none=>simp[ok1] at e
 |some y=>simp[ok1] at e;exact ⟨y,rfl,e.1.symm,e.2.1.symm,e.2.2.symm⟩
theorem op_mov(hW:WR X E)(hT:TR X E s a)(hh:E.h=s.hp)(hc:E.ct=s.ct){x:Operand}{y:Opd}(ho:o.op=.move x∨o.op=.assign x)(hx:okOpd x y=true)
  (hs:step G s d (.mov y)=some (v,h',c')):OpOk P X E o a.eval v h' c':=by
 have r:=ev_sound hT hx;have:v=ev s y∧h'=s.hp∧c'=s.ct:=by
  simp only[step] at hs;split at hs
  ·simp at hs
  ·simp at hs
  ·simp at hs
   exact ⟨hs.1.symm,hs.2.1.symm,hs.2.2.symm⟩
 obtain ⟨rfl,rfl,rfl⟩:=this;rw[← hh,← hc];exact OpOk.pure hW (x:=a.eval x) (by rcases ho with ho|ho<;>simp[execOp,ho]) r
theorem op_pick(hW:WR X E)(hT:TR X E s a)(hh:E.h=s.hp)(hc:E.ct=s.ct){x y z:Operand}{x' y' z':Opd}(ho:o.op=.pick x y z)
  (hx:okOpd x x'=true) (hy:okOpd y y'=true) (hz:okOpd z z'=true) (hs:step G s d (.pick x' y' z')=some (v,h',c')):OpOk P X E o a.eval v h' c':=by
 have rx:=ev_sound hT hx;have ry:=ev_sound hT hy;have rz:=ev_sound hT hz;simp only[step] at hs;split at hs
 ·rename_i hb
  simp at hs;obtain ⟨rfl,rfl,rfl⟩:=hs;rw[← hh,← hc];exact OpOk.pure hW (x:=a.eval y) (by simp[execOp,ho,bool_sound rx hb,asBool]) ry
 ·rename_i hb
  simp at hs;obtain ⟨rfl,rfl,rfl⟩:=hs;rw[← hh,← hc];exact OpOk.pure hW (x:=a.eval z) (by simp[execOp,ho,bool_sound rx hb,asBool]) rz
 ·simp at hs
def fldOk(P:Program)(t f off n:Nat)(agg:Bool):Bool :=
  match P.underlying t with
  |some (.struct fs)=>match fs[f]? with
    |some fd=>fd.offset==off&&tyOk P fd.type n agg
    |none=>false
  |_=>false
theorem op_fld(hW:WR X E)(hT:TR X E s a)(hh:E.h=s.hp)(hc:E.ct=s.ct){t f off n:Nat}{agg:Bool}{x:Operand}{x':Opd}(ho:o.op=.field t x f)
  (hx:okOpd x x'=true) (hf:fldOk P t f off n agg=true) (hs:step G s d (.fld off n agg x')=some (v,h',c')):OpOk P X E o a.eval v h' c':=by
 have rx:=ev_sound hT hx;unfold fldOk at hf;split at hf
 ·rename_i fs hu
  split at hf
  ·rename_i fd hfd
   simp at hf;obtain ⟨rfl,hty⟩:=hf;simp only[step] at hs;split at hs
   ·rename_i xs hxs
    rw[hxs] at rx;obtain ⟨vs,hav,r⟩:=rx;split at hs
    ·rename_i cs hcs
     obtain ⟨a1,h1,rfl,rfl,rfl⟩:=ok1_eq hs;obtain ⟨hn,rfl⟩:=takeN_sound hcs;rw[← hh,← hc];have hl:=r.length;simp at hn;refine OpOk.pure hW (x:=valOf agg ((vs.drop fd.offset).take n)) ?_ (mk1_sound ((r.drop _).take _) h1);have hp:=run_part_cells hty E.w vs.toArray fd.offset (by simp;have:=(tyOk_parts hty);omega);simp at hp;simp[execOp,ho,hav,Instr.field,run_underlying hu,hfd,asAgg,hp]
    ·simp at hs
   ·simp at hs
  ·simp at hf
 ·simp at hf
def idxOk(P:Program)(t len sz:Nat)(agg:Bool):Bool :=
  match P.underlying t with
  |some (.array n e)=>n==len&&tyOk P e sz agg
  |_=>false
theorem op_idx(hW:WR X E)(hT:TR X E s a)(hh:E.h=s.hp)(hc:E.ct=s.ct){t len sz:Nat}{agg:Bool}{x i:Operand}{x' i':Opd}(ho:o.op=.index t x i)
  (hx:okOpd x x'=true) (hi:okOpd i i'=true) (hf:idxOk P t len sz agg=true) (hs:step G s d (.idx len sz agg x' i')=some (v,h',c')):OpOk P X E o a.eval v h' c':=by
 have rx:=ev_sound hT hx;have ri:=ev_sound hT hi;unfold idxOk at hf;split at hf
 ·rename_i n e hu
  simp at hf;obtain ⟨rfl,hty⟩:=hf;simp only[step] at hs;split at hs
  ·rename_i xs k hxs hk
   rw[hxs] at rx;obtain ⟨vs,hav,r⟩:=rx;obtain ⟨kk,hiv⟩:=nat_sound ri hk;split at hs
   ·rename_i hlt
    split at hs
    ·rename_i cs hcs
     obtain ⟨a1,h1,rfl,rfl,rfl⟩:=ok1_eq hs;obtain ⟨hn,rfl⟩:=takeN_sound hcs;rw[← hh,← hc];have hl:=r.length;simp at hn;refine OpOk.pure hW (x:=valOf agg ((vs.drop (k*sz)).take sz)) ?_ (mk1_sound ((r.drop _).take _) h1);have hsz:=run_size hty E.w;rcases Nat.eq_zero_or_pos sz with h0|h0
     ·obtain ⟨_,_,_,_,_,_,h3⟩:=tyOk_parts hty
      subst h0;simp at h3;subst h3;have h5:=run_isAgg hty E.w;simp[execOp,ho,hav,hiv,Instr.index,asIntOf,run_underlying hu,hlt,hsz,part,h5,valOf]
     ·have hp:=run_part_cells hty E.w vs.toArray (k*sz) (by simp;omega)
      simp at hp;simp[execOp,ho,hav,hiv,Instr.index,asIntOf,run_underlying hu,hlt,hsz,hp]
    ·simp at hs
   ·simp at hs
  ·simp at hs
 ·simp at hf
def isStrT(P:Program)(t:Nat):Bool:=match P.underlying t with|some .string=>true|_=>false
theorem isStrT_eq{t:Nat}(h:isStrT P t=true):P.underlying t=some .string:=by
 unfold isStrT at h;split at h
 ·assumption
 ·simp at h
theorem op_idxS(hW:WR X E)(hT:TR X E s a)(hh:E.h=s.hp)(hc:E.ct=s.ct){t:Nat}{x i:Operand}{x' i':Opd}(ho:o.op=.index t x i)
  (hx:okOpd x x'=true) (hi:okOpd i i'=true) (hf:isStrT P t=true) (hs:step G s d (.idxS x' i')=some (v,h',c')):OpOk P X E o a.eval v h' c':=by
 have rx:=ev_sound hT hx;have ri:=ev_sound hT hi;have hu:=isStrT_eq hf;simp only[step] at hs;split at hs
 ·rename_i l k hl hk
  obtain ⟨str,hav,rfl⟩:=str_sound rx hl;obtain ⟨kk,hiv⟩:=nat_sound ri hk;split at hs
  ·rename_i ch hch
   obtain ⟨y,h1,rfl,rfl,rfl⟩:=okv_eq hs;simp at h1;subst h1;rw[← hh,← hc];refine OpOk.pure hW (x:=.int .u8 ch.toNat) ?_ (VR.int _ _);have hlt:k<str.size:=by have:=(List.getElem?_eq_some_iff.1 hch).1;simpa using this
   have hb:str[k]?=some ch:=by
    have:str.data.toList[k]?=some ch:=hch;rw[getElem?_pos str k hlt];congr 1;have h2:=(List.getElem?_eq_some_iff.1 this).2;exact h2
   simp[execOp,ho,hav,hiv,Instr.index,asIntOf,run_underlying hu,hb]
  ·simp at hs
 ·simp at hs
def scal:IV→Value
  |.int k n=>.int k n
  |.bool b=>.bool b
  |.str l=>.string ⟨l.toArray⟩
  |_=>undef
theorem intBin_scal{op:BinOp}{k:IntKind}{x y:Int}{r:IV}(h:intBin op k x y=some r)(p:Nat→Nat→Prop)(hh:Array Obj):VR p hh r (scal r):=by
 cases op<;>simp[intBin] at h<;>first
  |(subst h;exact .int _ _)
  |(subst h;exact .bool _)
  |(obtain ⟨h1,h⟩:=h;subst h;exact .int _ _)
theorem run_intBin{op:BinOp}{k:IntKind}{x y:Int}{r:IV}(h:intBin op k x y=some r)(t:TypeId)(w:World) :
  (binOp op t (.int k x) (.int k y)).run P w=.ok (scal r) w:=by
 cases op<;>simp[intBin] at h<;>first
  |(subst h;simp[binOp,Op.intArith,Op.intBits,Op.intCmp,scal])
  |(obtain ⟨h1,h⟩:=h;subst h;simp[binOp,Op.intDiv,h1,scal])
theorem run_shiftBin{op:BinOp}{k k':IntKind}{x y:Int}{r:IV}(hop:op=.shl∨op=.shr)(h:shiftBin op k x y=some r)(t:TypeId)(w:World) :
  (binOp op t (.int k x) (.int k' y)).run P w=.ok (scal r) w∧∀ p hh,VR p hh r (scal r):=by
 unfold shiftBin at h;split at h
 ·simp at h
 ·rename_i hy
  rcases hop with rfl|rfl<;>simp at h<;>subst h<;>exact ⟨by simp[binOp,Op.shift,hy,scal],fun _ _=>.int _ _⟩
theorem run_strBin{op:BinOp}{x y:ByteArray}{r:IV}(h:strBin op x.data.toList y.data.toList=some r)(t:TypeId)(w:World) :
  ∃ z,(binOp op t (.string x) (.string y)).run P w=.ok z w∧∀ p hh,VR p hh r z:=by
 have hsz:∀ z:ByteArray,z.data.toList.length=z.size:=fun z=>Array.length_toList;cases op<;>simp only[strBin] at h
 case add =>
  split at h
  ·rename_i hle
   simp at h;subst h;rw[hsz,hsz] at hle;exact ⟨.string (x++y),by simp only[binOp];exact run_string_add_sum w x y (Nat.le_trans hle (by decide)),fun _ _=>.str _ _ (by rw[ByteArray.data_append];exact Array.toList_append)⟩
  ·simp at h
 all_goals first
  |(simp at h;done)
  |(simp only[Option.some.injEq] at h;subst h;exact ⟨_,by simp only[binOp,Op.stringOp,ByteArray.toList_eq];rfl,fun _ _=>.bool _⟩)
theorem op_bin(hW:WR X E)(hT:TR X E s a)(hh:E.h=s.hp)(hc:E.ct=s.ct){op:BinOp}{t u:Nat}{x y:Operand}{x' y':Opd}(ho:o.op=.binOp op t x y u)
  (hx:okOpd x x'=true) (hy:okOpd y y'=true) (hs:step G s d (.bin op x' y')=some (v,h',c')):OpOk P X E o a.eval v h' c':=by
 have rx:=ev_sound hT hx;have ry:=ev_sound hT hy;simp only[step] at hs;obtain ⟨r,h1,rfl,rfl,rfl⟩:=okv_eq hs;rw[← hh,← hc];unfold binV at h1;split at h1
 ·rename_i k m k' m' e1 e2
  rw[e1] at rx;rw[e2] at ry;have ex:a.eval x=.int k m:=by have rx:VR _ _ _ _:=rx;generalize a.eval x=q at rx;cases rx;rfl
  have ey:a.eval y=.int k' m':=by have ry:VR _ _ _ _:=ry;generalize a.eval y=q at ry;cases ry;rfl
  have gen:∀ z,(binOp op t (.int k m) (.int k' m')).run P E.w=.ok z E.w→(∀ p hh,VR p hh r z)→OpOk P X E o a.eval (V r) E.h E.ct:=fun z hz hv =>
   OpOk.pure hW (x:=z) (by simp[execOp,ho,ex,ey,eqGuard_at_int,hz]) (hv _ _)
  split at h1
  ·obtain ⟨q1,q2⟩:=run_shiftBin (P:=P) (k':=k') (.inl rfl) h1 t E.w
   exact gen _ q1 q2
  ·obtain ⟨q1,q2⟩:=run_shiftBin (P:=P) (k':=k') (.inr rfl) h1 t E.w
   exact gen _ q1 q2
  ·split at h1
   ·rename_i hk
    subst hk;exact gen _ (run_intBin h1 t E.w) (intBin_scal h1)
   ·simp at h1
 ·rename_i l m e1 e2
  rw[e1] at rx;rw[e2] at ry;obtain ⟨sx,ex,rfl⟩:∃ z:ByteArray,a.eval x=.string z∧z.data.toList=l:=by
   have rx:VR _ _ _ _:=rx;generalize a.eval x=q at rx;cases rx;exact ⟨_,rfl,by assumption⟩
  obtain ⟨sy,ey,rfl⟩:∃ z:ByteArray,a.eval y=.string z∧z.data.toList=m:=by
   have ry:VR _ _ _ _:=ry;generalize a.eval y=q at ry;cases ry;exact ⟨_,rfl,by assumption⟩
  obtain ⟨z,hz,hv⟩:=run_strBin (P:=P) h1 t E.w;exact OpOk.pure hW (x:=z) (by simp[execOp,ho,ex,ey,eqGuard_at_string,hz]) (hv _ _)
 ·simp at h1
def isBoolT(P:Program)(t:Nat):Bool:=match P.underlying t with|some .bool=>true|_=>false
theorem op_eqB(hW:WR X E)(hT:TR X E s a)(hh:E.h=s.hp)(hc:E.ct=s.ct){neg:Bool}{t u:Nat}{x y:Operand}{x' y':Opd}(ho:o.op=.binOp (if neg then .neq else .eql) t x y u)
  (hx:okOpd x x'=true) (hy:okOpd y y'=true) (hu:isBoolT P t=true) (hs:step G s d (.eqB neg x' y')=some (v,h',c')):OpOk P X E o a.eval v h' c':=by
 have rx:=ev_sound hT hx;have ry:=ev_sound hT hy;have hu:P.underlying t=some .bool:=by unfold isBoolT at hu;split at hu;assumption;simp at hu
 simp only[step] at hs;split at hs
 ·rename_i p q e1 e2
  obtain ⟨r,h1,rfl,rfl,rfl⟩:=okv_eq hs;simp at h1;subst h1;rw[← hh,← hc];have ex:=bool_sound rx e1;have ey:=bool_sound ry e2;refine OpOk.pure hW (x:=.bool (if neg then !(p==q) else p==q)) ?_ (VR.bool _);cases neg<;>simp[execOp,ho,ex,ey,eqGuard_at_bool,binOp,Op.equal,Op.maxDepth,run_equalIn_bool' E.w 9999 t p q hu]
 ·simp at hs
def nilKind(P:Program)(t ty:Nat):Bool :=
  match P.underlying t,ty with
  |some (.pointer _),0|some (.slice _),1|some (.map _ _),2|some (.func _ _ _),3=>true
  |_,_=>false
def nilOf:Value→Option (Nat×Bool)
  |.pointer a=>some (0,a.isNone)
  |.slice a _ _=>some (1,a.isNone)
  |.map a=>some (2,a.isNone)
  |.nilFunc=>some (3,true)
  |.func _ _ _=>some (3,false)
  |_=>none
theorem isNil_sound{ty:Nat}{x:AC}{y:Value}{b:Bool}(r:CC X E x y)(e:isNil E.h ty x=some b):nilOf y=some (ty,b):=by
 unfold isNil at e;split at e<;>(try split at e)<;>simp at e;all_goals (try subst e)
 all_goals (try (rename_i h;subst h))
 all_goals first
  |(cases r<;>rfl)
  |(obtain ⟨vs,rfl,_⟩:=r;rfl)
  |(obtain ⟨h1,h2⟩:=‹_∧_›;subst h1;obtain ⟨_,_,r⟩:=r;obtain ⟨_,rfl⟩:=r h2;rfl)
  |(obtain ⟨h1,h2⟩:=‹_∧_›;subst h1;obtain ⟨_,_,r⟩:=r;have r:=r h2;subst r;rfl)
  |(obtain ⟨h1,h2⟩:=‹_∧_›;subst h1;obtain ⟨_,_,r⟩:=r;obtain ⟨_,⟨_,rfl,_⟩|⟨_,_,rfl⟩⟩:=r h2<;>rfl)
theorem run_eq_nil{t ty:Nat}{p q:Value}{b c:Bool}(hk:nilKind P t ty=true)(hp:nilOf p=some (ty,b))(hq:nilOf q=some (ty,c))(hbc:b=true∨c=true)(w:World) :
  (Op.equal t p q).run P w=.ok (b==c) w:=by
 unfold nilKind at hk;split at hk;all_goals first|(simp at hk;done)|skip
 case h_1 e hu =>
  cases p<;>simp[nilOf] at hp
  cases q<;>simp[nilOf] at hq
  rename_i p q;subst hp;subst hq;cases p<;>cases q<;>simp at hbc<;>(show (Op.equalIn (9999+1) t _ _).run P w=_)<;>generalize 9999=dd<;>simp only[Op.equalIn,Sem.run_bind,run_underlying hu,Result.andThen_ok,Sem.run_pure]<;>rfl
 case h_2 e hu =>
  cases p<;>simp[nilOf] at hp
  cases q<;>simp[nilOf] at hq
  rename_i p _ _ q _ _;subst hp;subst hq;cases p<;>cases q<;>simp at hbc<;>(show (Op.equalIn (9999+1) t _ _).run P w=_)<;>generalize 9999=dd<;>simp only[Op.equalIn,Sem.run_bind,run_underlying hu,Result.andThen_ok,Sem.run_pure]<;>rfl
 case h_3 e1 e2 hu =>
  cases p<;>simp[nilOf] at hp
  cases q<;>simp[nilOf] at hq
  rename_i p q;subst hp;subst hq;cases p<;>cases q<;>simp at hbc<;>(show (Op.equalIn (9999+1) t _ _).run P w=_)<;>generalize 9999=dd<;>simp only[Op.equalIn,Sem.run_bind,run_underlying hu,Result.andThen_ok,Sem.run_pure]<;>rfl
 case h_4 e1 e2 e3 hu =>
  cases p<;>simp[nilOf] at hp<;>cases q<;>simp[nilOf] at hq<;>subst hp<;>subst hq<;>simp at hbc<;>(show (Op.equalIn (9999+1) t _ _).run P w=_)<;>generalize 9999=dd<;>simp only[Op.equalIn,Sem.run_bind,run_underlying hu,Result.andThen_ok,Sem.run_pure]<;>rfl
theorem nilOf_guard{op:BinOp}{t:TypeId}{x y:Operand}{p q:Value}{ty:Nat}{b:Bool}(hp:nilOf p=some (ty,b)):eqGuard op t x y p q=pure ():=by
 cases p<;>simp[nilOf] at hp
 ·exact eqGuard_at_pointer _ _ _ _ _ _
 ·exact eqGuard_at_slice _ _ _ _ _ _ _ _
 ·exact eqGuard_at_map _ _ _ _ _ _
 ·exact eqGuard_at_func _ _ _ _ _ _ _ _
 ·exact eqGuard_at_nilFunc _ _ _ _ _
theorem nilOf_binOp{neg:Bool}{t:TypeId}{p q:Value}{ty:Nat}{b c:Bool}(hp:nilOf p=some (ty,b))(hq:nilOf q=some (ty,c))(w:World)(he:(Op.equal t p q).run P w=.ok (b==c) w) :
  (binOp (if neg then .neq else .eql) t p q).run P w=.ok (.bool (if neg then !(b==c) else b==c)) w:=by
 cases p<;>simp[nilOf] at hp<;>cases q<;>simp[nilOf] at hq<;>first
  |(exfalso;omega)
  |(cases neg<;>simp[binOp,he])
theorem op_eqN(hW:WR X E)(hT:TR X E s a)(hh:E.h=s.hp)(hc:E.ct=s.ct){neg:Bool}{t u ty:Nat}{x y:Operand}{x' y':Opd}(ho:o.op=.binOp (if neg then .neq else .eql) t x y u)
  (hx:okOpd x x'=true) (hy:okOpd y y'=true) (hu:nilKind P t ty=true) (hs:step G s d (.eqN neg ty x' y')=some (v,h',c')):OpOk P X E o a.eval v h' c':=by
 have rx:=ev_sound hT hx;have ry:=ev_sound hT hy;simp only[step] at hs;split at hs
 ·rename_i p q e1 e2
  split at hs
  ·rename_i b c f1 f2
   split at hs
   ·rename_i hbc
    obtain ⟨r,h1,rfl,rfl,rfl⟩:=okv_eq hs;simp at h1;subst h1;rw[e1] at rx;rw[e2] at ry;rw[← hh] at f1 f2;rw[← hh,← hc];have n1:=isNil_sound (x:=p) rx f1;have n2:=isNil_sound (x:=q) ry f2;have he:=run_eq_nil (P:=P) hu n1 n2 (by simpa using hbc) E.w;refine OpOk.pure hW (x:=.bool (if neg then !(b==c) else b==c)) ?_ (VR.bool _);simp[execOp,ho,nilOf_guard n1,nilOf_binOp n1 n2 E.w he]
   ·simp at hs
  ·simp at hs
 ·simp at hs
theorem op_un(hW:WR X E)(hT:TR X E s a)(hh:E.h=s.hp)(hc:E.ct=s.ct){op:UnOp}{t:Nat}{x:Operand}{x':Opd}(ho:o.op=.unOp op t x)
  (hx:okOpd x x'=true) (hs:step G s d (.un op x')=some (v,h',c')):OpOk P X E o a.eval v h' c':=by
 have rx:=ev_sound hT hx;simp only[step] at hs;split at hs
 ·rename_i k n e1
  obtain ⟨r,h1,rfl,rfl,rfl⟩:=okv_eq hs;injection h1 with h1;subst h1;rw[e1] at rx;have ex:a.eval x=.int k n:=by have rx:VR _ _ _ _:=rx;generalize a.eval x=q at rx;cases rx;rfl
  rw[← hh,← hc];exact OpOk.pure hW (x:=.int k (k.wrap (0-n))) (by simp[execOp,ho,ex,Op.unary,Op.intArith]) (VR.int _ _)
 ·rename_i k n e1
  obtain ⟨r,h1,rfl,rfl,rfl⟩:=okv_eq hs;rw[e1] at rx;have ex:a.eval x=.int k n:=by have rx:VR _ _ _ _:=rx;generalize a.eval x=q at rx;cases rx;rfl
  rw[← hh,← hc];simp[intBin] at h1;subst h1;exact OpOk.pure hW (x:=.int k (k.wrap (BitVec.ofInt k.bits (if k.signed then -1 else k.max) ^^^ BitVec.ofInt k.bits n).toNat)) (by simp[execOp,ho,ex,Op.unary,Op.intBits]) (VR.int _ _)
 ·rename_i b e1
  obtain ⟨r,h1,rfl,rfl,rfl⟩:=okv_eq hs;simp at h1;subst h1;rw[e1] at rx;have ex:a.eval x=.bool b:=by have rx:VR _ _ _ _:=rx;generalize a.eval x=q at rx;cases rx;rfl
  rw[← hh,← hc];exact OpOk.pure hW (x:=.bool !b) (by simp[execOp,ho,ex,Op.unary]) (VR.bool _)
 ·simp at hs
def intT(P:Program)(t:Nat)(k:IntKind):Bool:=match P.underlying t with|some (.int k')=>k==k'|_=>false
theorem intT_eq{t:Nat}{k:IntKind}(h:intT P t k=true):P.underlying t=some (.int k):=by
 unfold intT at h;split at h
 ·simp at h;subst h;assumption
 ·simp at h
theorem op_cvI(hW:WR X E)(hT:TR X E s a)(hh:E.h=s.hp)(hc:E.ct=s.ct){k k':IntKind}{t u:Nat}{x:Operand}{x':Opd}(ho:o.op=.convert t u x)
  (hx:okOpd x x'=true) (ht:intT P t k'=true) (hu:intT P u k=true) (hs:step G s d (.cvI k x')=some (v,h',c')):OpOk P X E o a.eval v h' c':=by
 have rx:=ev_sound hT hx;have hu:=intT_eq hu;have ht:=intT_eq ht;simp only[step] at hs;split at hs
 ·rename_i k2 n e1
  obtain ⟨r,h1,rfl,rfl,rfl⟩:=okv_eq hs;simp at h1;subst h1;rw[← hh,← hc];exact OpOk.pure hW (x:=.int k (k.wrap n)) (by simp[execOp,ho,int_sound rx e1,convert,run_underlying ht,run_underlying hu,Conv.intToInt]) (VR.int _ _)
 ·simp at hs
theorem op_cvIS(hW:WR X E)(hT:TR X E s a)(hh:E.h=s.hp)(hc:E.ct=s.ct){k':IntKind}{t u:Nat}{x:Operand}{x':Opd}(ho:o.op=.convert t u x)
  (hx:okOpd x x'=true) (ht:intT P t k'=true) (hu:isStrT P u=true) (hs:step G s d (.cvIS x')=some (v,h',c')):OpOk P X E o a.eval v h' c':=by
 have rx:=ev_sound hT hx;have hu:=isStrT_eq hu;have ht:=intT_eq ht;simp only[step] at hs;split at hs
 ·rename_i k2 n e1
  obtain ⟨r,h1,rfl,rfl,rfl⟩:=okv_eq hs;simp at h1;subst h1;rw[← hh,← hc];exact OpOk.pure hW (x:=.string (Utf8.encode n)) (by simp[execOp,ho,int_sound rx e1,convert,run_underlying ht,run_underlying hu,Conv.intToString]) (VR.str _ _ rfl)
 ·simp at hs
theorem op_cvSS(hW:WR X E)(hT:TR X E s a)(hh:E.h=s.hp)(hc:E.ct=s.ct){t u:Nat}{x:Operand}{x':Opd}(ho:o.op=.convert t u x)
  (hx:okOpd x x'=true) (ht:isStrT P t=true) (hu:isStrT P u=true) (hs:step G s d (.cvSS x')=some (v,h',c')):OpOk P X E o a.eval v h' c':=by
 have rx:=ev_sound hT hx;have hu:=isStrT_eq hu;have ht:=isStrT_eq ht;simp only[step] at hs;split at hs
 ·rename_i l e1
  obtain ⟨r,h1,rfl,rfl,rfl⟩:=okv_eq hs;simp at h1;subst h1;obtain ⟨z,ez,hz⟩:=str_sound rx e1;rw[← hh,← hc];exact OpOk.pure hW (x:=.string z) (by simp[execOp,ho,ez,convert,run_underlying ht,run_underlying hu]) (VR.str _ _ hz)
 ·simp at hs
end
section
variable {P:Program} {X:Cx} {E:Env} {s:St} {a:Act} {o:Oper} {G:Nat→List IV} {d:Nat} {v:AV} {h':Heap} {c':Nat}
theorem op_load(hW:WR X E)(hG:GOk X G)(hT:TR X E s a)(hh:E.h=s.hp)(hc:E.ct=s.ct){t n:Nat}{agg:Bool}{x:Operand}{x':Opd}(ho:o.op=.load t x)
  (hx:okOpd x x'=true) (hty:tyOk P t n agg=true) (hs:step G s d (.load n agg x')=some (v,h',c')):OpOk P X E o a.eval v h' c':=by
 have rx:=ev_sound hT hx;simp only[step] at hs;split at hs
 ·rename_i p e1
  rw[e1] at rx;split at hs
  ·rename_i cells e2
   split at hs
   ·rename_i cs e3
    obtain ⟨a1,h1,rfl,rfl,rfl⟩:=ok1_eq hs;rw[← hh] at e2;rw[← hh,← hc];obtain ⟨ad,vs,q1,q2,q3,q4⟩:=look_view hW hG (p:=p) rx e2 e3;have hl:=run_loadVar_cells hty E.w ad vs q2 q4;exact OpOk.pure hW (x:=valOf agg vs) (by simp[execOp,ho,Instr.loadAt,q1,Instr.sureAddr,hl]) (mk1_sound q3 h1)
   ·simp at hs
  ·simp at hs
 ·simp at hs
theorem setCells_heap(c:Nat):∀ (vs:List Value) (o:Nat) (w:World) (cs:Array Value) (e:TypeId) (fr:Nat×Nat),w.heap[c]?=some (.cells cs e fr) →
  ∃ cs',(w.setCells c o vs).heap[c]?=some (.cells cs' e fr)∧cs'.size=cs.size∧(∀ (i:Nat),o≤i→i<o+vs.length→i<cs.size→cs'[i]?=vs[i-o]?) ∧
   (∀ (i:Nat),(i<o∨o+vs.length≤i)→cs'[i]?=cs[i]?)∧(∀ k,k≠c→(w.setCells c o vs).heap[k]?=w.heap[k]?)∧(w.setCells c o vs).heap.size=w.heap.size ∧
   (w.setCells c o vs).os=w.os∧(w.setCells c o vs).tape=w.tape∧(w.setCells c o vs).output=w.output
 |[],o,w,cs,e,fr,h=>⟨cs,h,rfl,fun i h1 h2=>by simp at h2;omega,fun _ _=>rfl,fun _ _=>rfl,rfl,rfl,rfl,rfl⟩
 |v::vs,o,w,cs,e,fr,h=>by
  have h1:(w.setCell ⟨c,o,none⟩ v).heap[c]?=some (.cells (cs.setIfInBounds o v) e fr):=by
   simp[World.setCell,Array.getElem?_modify,h]
  obtain ⟨cs',q1,q2,q3,q4,q5,q6,q7,q8,q9⟩:=setCells_heap c vs (o+1) (w.setCell ⟨c,o,none⟩ v) _ e fr h1
  refine ⟨cs',q1,by rw[q2];simp,fun i h2 h3 h4=>?_,fun i h2=>?_,fun k hk=>?_,by rw[World.setCells,q6];simp,by rw[World.setCells,q7];rfl,by rw[World.setCells,q8];rfl,by rw[World.setCells,q9];rfl⟩
  ·by_cases e0:i=o
   ·subst e0
    rw[q4 i (by omega)]
    simp[h4]
   ·have:i-o=(i-(o+1))+1:=by omega
    rw[q3 i (by omega) (by simp at h3;omega) (by simpa using h4),this]
    simp
  ·rw[q4 i (by simp at h2;omega)]
   rw[Array.getElem?_setIfInBounds_ne]
   rcases h2 with h2|h2
   ·omega
   ·simp at h2;omega
  ·rw[World.setCells,q5 k hk]
   simp only[World.setCell,Array.getElem?_modify]
   rw[if_neg (by omega)]
theorem frozen_no{w:World}{c i:Nat}{cs:Array Value}{e:TypeId}{fr:Nat×Nat}(h:w.heap[c]?=some (.cells cs e fr))(hf:cs.size≤fr.1∨fr.2≤fr.1)(hi:i<cs.size) :
  w.frozen? ⟨c,i,none⟩=false:=by
 obtain ⟨lo,hi'⟩:=fr;simp only[World.frozen?,h];simp at hf ⊢;omega
theorem run_storeAt_cells{w:World}{c off:Nat}{cs:Array Value}{e:TypeId}{fr:Nat×Nat}{t n:Nat}{agg:Bool}{val:Value}(hty:tyOk P t n agg=true)
  (h:w.heap[c]?=some (.cells cs e fr)) (hf:cs.size≤fr.1∨fr.2≤fr.1) (hn:val.cells.size=n) (hfit:n=0∨off+n≤cs.size) (hone:∀ v∈val.cells.toList,One v) :
  (Instr.storeAt t (.pointer (some ⟨c,off,none⟩)) val).run P w=.ok () (w.setCells c off val.cells.toList):=by
 have hsz:=run_size hty w;have hl:val.cells.toList.length=n:=by simpa using hn
 have hst:=run_storeCells_cells (P:=P) c off val.cells.toList 0 w
  (fun j hj=>by
   rw[hl] at hj;rw[cell_of_heap h,Array.getElem?_eq_getElem (by omega)];rfl)
  (fun j hj=>by
   rw[hl] at hj;exact frozen_no h hf (by omega))
  (fun v hv=>hone v hv)
 simp only[Nat.add_zero] at hst;simp only[Instr.storeAt,Instr.sureAddr,Sem.run_bind,Sem.run_pure,Result.andThen_ok,storeVar,hsz,hn];simp[hst]
theorem All2.one{l:List AC}{m:List Value}(h:All2 (CC X E) l m):∀ v∈m,One v:=by
 induction h with
 |nil=>simp
 |cons h _ ih =>
  intro v hv;rcases List.mem_cons.1 hv with rfl|hv
  ·exact CC.one h
  ·exact ih v hv
theorem lay_length{cs new:List AC}{off:Nat}(h:off+new.length≤cs.length):(lay cs off new).length=cs.length:=by
 simp[lay];omega
theorem lay_get{cs new:List AC}{off:Nat}(h:off+new.length≤cs.length)(i:Nat) :
  (lay cs off new)[i]?=if off≤i∧i<off+new.length then new[i-off]? else cs[i]?:=by
 unfold lay;by_cases h1:i<off
 ·rw[if_neg (by omega),List.append_assoc,List.getElem?_append_left (by simp;omega),List.getElem?_take_of_lt h1]
 ·by_cases h2:i<off+new.length
  ·rw[if_pos (by omega),List.append_assoc,List.getElem?_append_right (by simp;omega)]
   rw[List.length_take,Nat.min_eq_left (by omega),List.getElem?_append_left (by omega)]
  ·rw[if_neg (by omega),List.getElem?_append_right (by simp;omega),List.getElem?_drop]
   congr 1;simp;omega
theorem put_write(hW:WR X E){b g off:Nat}{cs new:List AC}{vs:List Value}(hrow:E.h.row b g=some cs)(hfit:off+new.length≤cs.length)(hoff:(E.m b).2≤off)(r:All2 (CC X E) new vs) :
    ∃ E',E'.w=E.w.setCells (E.m b).1 (off-(E.m b).2) vs∧E'.ct=E.ct∧Put X E E' b (.cells g (lay cs off new)) (E.m b).1∧BR X E' b (.cells g (lay cs off new)):=by
  obtain ⟨hget,hcur⟩:=Heap.row_eq hrow
  obtain ⟨⟨cc,e,fr,r1,r2,r3,r4⟩,hgen,_⟩:=hW.blk b _ hget
  have hl:=r.length
  obtain ⟨cs',q1,q2,q3,q4,q5,q6,q7,q8,q9⟩:=setCells_heap (E.m b).1 vs (off-(E.m b).2) E.w cc e fr r1
  have hP:Put X E {h:=E.h.set b (.cells g (lay cs off new)),m:=E.m,ct:=E.ct,w:=E.w.setCells (E.m b).1 (off-(E.m b).2) vs} b (.cells g (lay cs off new)) (E.m b).1 :=
    { h:=rfl,ct:=Nat.le_refl _,gen:=hgen,m:=fun _ _=>rfl,size:=by simp only;rw[q6];exact Nat.le_refl _,heap:=fun k _ hk=>q5 k hk,c0:=.inr ⟨by simp[hget],rfl⟩,
      at_:=.inr ⟨by simp[hget],rfl⟩,
      old:=fun _=>⟨hcur,rfl,fun cc2 e2 fr2 h2=>by
        rw[r1] at h2
        injection h2 with h2
        injection h2 with h2 h3 h4
        exact ⟨cs',e,fr,q1,by rw[q2,h2]⟩⟩,
      os:=q7,tape:=q8,output:=q9 }
  have hE:=hP.ext hW
  refine ⟨{h:=E.h.set b (.cells g (lay cs off new)),m:=E.m,ct:=E.ct,w:=E.w.setCells (E.m b).1 (off-(E.m b).2) vs},rfl,rfl,hP,⟨cs',e,fr,q1,by rw[q2];exact r2,by rw[lay_length hfit];exact r3,fun i x hi hx=>?_⟩⟩
  simp only at hi ⊢
  rw[lay_get hfit] at hx
  split at hx
  · rename_i h1
    obtain ⟨v,hv,hr⟩:=r.get _ _ hx
    refine ⟨v,?_,hr.ext hE⟩
    have hlt:i-(E.m b).2<cc.size:=by
      have hi2:i<cs.length:=by omega
      obtain ⟨v0,hv0,_⟩:=r4 i cs[i] hi (by simp[hi2])
      exact (Array.getElem?_eq_some_iff.1 hv0).1
    rw[q3 (i-(E.m b).2) (by omega) (by omega) hlt]
    have:i-(E.m b).2-(off-(E.m b).2)=i-off:=by omega
    rw[this];exact hv
  · rename_i h1
    obtain ⟨v,hv,hr⟩:=r4 i x hi hx
    refine ⟨v,?_,hr.ext hE⟩
    rw[q4 (i-(E.m b).2) (by omega)]
    exact hv
theorem op_store(hW:WR X E)(hT:TR X E s a)(hh:E.h=s.hp)(hc:E.ct=s.ct){t n:Nat}{agg:Bool}{x y:Operand}{x' y':Opd}(ho:o.op=.store t x y)
  (hx:okOpd x x'=true) (hy:okOpd y y'=true) (hty:tyOk P t n agg=true) (hs:step G s d (.store n x' y')=some (v,h',c')):OpOk P X E o a.eval v h' c':=by
 have rx:=ev_sound hT hx;have ry:=ev_sound hT hy;simp only[step] at hs;split at hs
 ·rename_i b g off w e1 e2
  split at hs
  ·rename_i cs e3
   split at hs
   ·rename_i hcond
    obtain ⟨hn,hfit⟩:=hcond;simp at hs;obtain ⟨rfl,rfl,rfl⟩:=hs;rw[e1] at rx;rw[e2] at ry;rw[← hh] at e3;obtain ⟨hget,hcur⟩:=Heap.row_eq e3;obtain ⟨_,_,h3⟩:=rx;obtain ⟨h4,h5⟩:=h3 hcur;have rc:=cells_sound (a1:=w) ry;obtain ⟨E',f1,f2,f3,f4⟩:=put_write hW e3 (by omega) h4 rc;obtain ⟨⟨cc,e,fr,r1,r2,r3,r4⟩,hgen,_⟩:=hW.blk b _ hget;have hnl:=rc.length;have hst:=run_storeAt_cells (P:=P) (off:=off-(E.m b).2) (val:=a.eval y) hty r1 r2 (by simp at hnl;omega)
     (by
      rcases Nat.eq_zero_or_pos n with h0|h0
      ·exact .inl h0
      ·obtain ⟨v0,hv0,_⟩:=r4 (off+n-1) (cs[off+n-1]'(by omega)) (by omega) (by simp)
       have:=(Array.getElem?_eq_some_iff.1 hv0).1
       exact .inr (by omega))
     (All2.one rc)
    rw[← hc,← f2,← hh];exact OpOk.putU hW f3 (by simp[execOp,ho,h5,hst,f1]) f4
   ·simp at hs
  ·simp at hs
 ·simp at hs
theorem put_new(hW:WR X E)(d:Nat){cs:List AC}{vs:List Value}(e:TypeId)(fr:Nat×Nat)(rest:List Value)(r:All2 (CC X E) cs vs)(w:World)
  (hw:w.heap=E.w.heap.push (.cells (vs++rest).toArray e fr)) (hf:(vs++rest).length≤fr.1∨fr.2≤fr.1) (ho:w.os=E.w.os) (ht:w.tape=E.w.tape) (hu:w.output=E.w.output) :
  Put X E (E.new d (.cells E.ct cs) w) d (.cells E.ct cs) E.w.heap.size∧BR X (E.new d (.cells E.ct cs) w) d (.cells E.ct cs):=by
 have hP:=Put.new X E d (.cells E.ct cs) w rfl (by rw[hw];simp) (fun k hk=>by rw[hw,Array.getElem?_push,if_neg (by omega)]) ho ht hu;have hE:=hP.ext hW;have hl:=r.length;refine ⟨hP,(vs++rest).toArray,e,fr,?_,by simpa using hf,by simp[Env.new],fun i x _ hx=>?_⟩
 ·simp only[Env.new,if_true]
  rw[hw,Array.getElem?_push];simp
 ·obtain ⟨v,hv,hr⟩:=r.get i x hx
  refine ⟨v,?_,hr.ext hE⟩;simp only[Env.new,if_true,Nat.sub_zero];have:i<vs.length:=(List.getElem?_eq_some_iff.1 hv).1;simp[List.getElem?_append_left this,hv]
theorem ptr_new{d:Nat}{x:Blk}{w:World}:AVR X (E.new d x w) (.v (.c (.r (.ptr d E.ct 0)))) (.pointer (some ⟨E.w.heap.size,0,none⟩)) :=
 ⟨rfl,Nat.lt_succ_self _,fun _=>by simp[Env.new]⟩
def zeroOk(P:Program)(t:Nat)(cs:List IV):Bool :=
  match P.info? t with
  |some i=>match i.zero with
    |some z=>constIVs z.cells.toList cs
    |none=>false
  |none=>false
theorem zeroOk_parts{t:Nat}{cs:List IV}(h:zeroOk P t cs=true):∃ i z,P.info? t=some i∧i.zero=some z∧∀ p hh,All2 (VR p hh) cs z.cells.toList:=by
 unfold zeroOk at h;split at h
 ·rename_i i hi
  split at h
  ·rename_i z hz
   exact ⟨i,z,hi,hz,fun p hh=>constIVs_sound h⟩
  ·simp at h
 ·simp at h
theorem op_alloc(hW:WR X E)(hh:E.h=s.hp)(hc:E.ct=s.ct){t:Nat}{cs:List IV}(ho:o.op=.alloc t)(hz:zeroOk P t cs=true)
  (hs:step G s d (.alloc cs)=some (v,h',c')):OpOk P X E o a.eval v h' c':=by
 simp only[step] at hs;simp at hs;obtain ⟨rfl,rfl,rfl⟩:=hs;obtain ⟨i,z,hi,hzz,rz⟩:=zeroOk_parts hz;have r:All2 (CC X E) (cs.map I) z.cells.toList:=(rz (okc X E) E.w.heap).map I fun _ _ r=>r;obtain ⟨hP,hB⟩:=put_new hW d (t) (0,0) [] r (E.w.alloc (.cells z.cells t)) (by simp only[List.append_nil,Array.toArray_toList];rfl) (.inr (Nat.le_refl _)) rfl rfl rfl;rw[← hh,← hc];exact OpOk.put hW hP (x:=.pointer (some ⟨E.w.heap.size,0,none⟩)) (by simp[execOp,ho,Instr.alloc,zeroValue,typeInfo,hi,hzz,newVar,newRow,Env.new]) hB ptr_new
theorem op_box(hW:WR X E)(hT:TR X E s a)(hh:E.h=s.hp)(hc:E.ct=s.ct){t n:Nat}{x:Operand}{x':Opd}(ho:o.op=.box t x)
  (hx:okOpd x x'=true) (hs:step G s d (.box n x')=some (v,h',c')):OpOk P X E o a.eval v h' c':=by
 have rx:=ev_sound hT hx;simp only[step] at hs;split at hs
 ·rename_i a1 e1
  split at hs
  ·simp at hs
   obtain ⟨rfl,rfl,rfl⟩:=hs;rw[e1] at rx;have r:=cells_sound (a1:=a1) rx;obtain ⟨hP,hB⟩:=put_new hW d t (0,0) [] r (E.w.alloc (.cells (a.eval x).cells t)) (by simp only[List.append_nil,Array.toArray_toList];rfl) (.inr (Nat.le_refl _)) rfl rfl rfl;rw[← hh,← hc];exact OpOk.put hW hP (x:=.pointer (some ⟨E.w.heap.size,0,none⟩)) (by simp[execOp,ho,Instr.box,newVar,newRow,Env.new]) hB ptr_new
  ·simp at hs
 ·simp at hs
theorem op_nilchk(hW:WR X E)(hT:TR X E s a)(hh:E.h=s.hp)(hc:E.ct=s.ct){x:Operand}{x':Opd}(ho:o.op=.nilCheck x)
  (hx:okOpd x x'=true) (hs:step G s d (.nilchk x')=some (v,h',c')):OpOk P X E o a.eval v h' c':=by
 have rx:=ev_sound hT hx;simp only[step] at hs;split at hs
 ·rename_i b g off e1
  split at hs
  ·rename_i hcur
   simp at hs;obtain ⟨rfl,rfl,rfl⟩:=hs;rw[e1] at rx;rw[← hh,← hc];obtain ⟨q1,q2,q3⟩:=rx;obtain ⟨q4,q5⟩:=q3 (by rw[hh];exact hcur);exact OpOk.pure hW (x:=a.eval x) (by simp[execOp,ho,q5]) ⟨q1,q2,q3⟩
  ·simp at hs
 ·rename_i t cs e1
  simp at hs;obtain ⟨rfl,rfl,rfl⟩:=hs;rw[e1] at rx;rw[← hh,← hc];have rx2:VR _ _ _ _:=rx;have:∃ ad,a.eval x=.pointer (some ad):=by generalize a.eval x=q at rx2;cases rx2<;>exact ⟨_,rfl⟩
  obtain ⟨ad,hq⟩:=this;exact OpOk.pure hW (x:=a.eval x) (by simp[execOp,ho,hq]) rx
 ·rename_i g off e1
  simp at hs;obtain ⟨rfl,rfl,rfl⟩:=hs;rw[e1] at rx;rw[← hh,← hc];have rx2:VR _ _ _ _:=rx;have:∃ ad,a.eval x=.pointer (some ad):=by generalize a.eval x=q at rx2;cases rx2<;>exact ⟨_,rfl⟩
  obtain ⟨ad,hq⟩:=this;exact OpOk.pure hW (x:=a.eval x) (by simp[execOp,ho,hq]) rx
 ·rename_i f cs e1
  simp at hs;obtain ⟨rfl,rfl,rfl⟩:=hs;rw[e1] at rx;rw[← hh,← hc];have rx2:VR _ _ _ _:=rx;have:∃ vs,a.eval x=.func (.func f) #[] vs:=by generalize a.eval x=q at rx2;cases rx2;exact ⟨_,rfl⟩
  obtain ⟨ad,hq⟩:=this;exact OpOk.pure hW (x:=a.eval x) (by simp[execOp,ho,hq]) rx
 ·rename_i f cs e1
  simp at hs;obtain ⟨rfl,rfl,rfl⟩:=hs;rw[e1] at rx;rw[← hh,← hc];obtain ⟨vs,q1,q2⟩:=rx;exact OpOk.pure hW (x:=a.eval x) (by simp[execOp,ho,q1]) ⟨vs,q1,q2⟩
 ·simp at hs
def fadrOk(P:Program)(t f off:Nat):Bool :=
  match P.underlying t with
  |some (.struct fs)=>match fs[f]? with
    |some fd=>fd.offset==off&&(match P.info? fd.type with|some i=>i.size != 0|none=>false)
    |none=>false
  |_=>false
theorem op_fadr(hW:WR X E)(hT:TR X E s a)(hh:E.h=s.hp)(hc:E.ct=s.ct){t f off:Nat}{x:Operand}{x':Opd}(ho:o.op=.fieldAddr t x f)
  (hx:okOpd x x'=true) (hf:fadrOk P t f off=true) (hs:step G s d (.fadr off x')=some (v,h',c')):OpOk P X E o a.eval v h' c':=by
 have rx:=ev_sound hT hx;unfold fadrOk at hf;split at hf
 ·rename_i fs hu
  split at hf
  ·rename_i fd hfd
   simp at hf;obtain ⟨rfl,hsz⟩:=hf;split at hsz
   ·rename_i i hi
    simp at hsz;have run:∀ ad,a.eval x=.pointer (some ad)→(execOp a.eval o).run P E.w=.ok (.value (.pointer (some (ad.add fd.offset)))) E.w:=fun ad h=>by
     simp[execOp,ho,h,Instr.fieldAt,run_underlying hu,hfd,Instr.sureAddr,fieldPlace,sizeOf,typeInfo,hi,hsz]
    simp only[step] at hs;split at hs
    ·rename_i b g oo e1
     split at hs
     ·rename_i hcur
      simp at hs;obtain ⟨rfl,rfl,rfl⟩:=hs;rw[e1] at rx;rw[← hh,← hc];obtain ⟨q1,q2,q3⟩:=rx;obtain ⟨q4,q5⟩:=q3 (by rw[hh];exact hcur);refine OpOk.pure hW (run _ q5) ⟨rfl,q2,fun _=>⟨by omega,?_⟩⟩;rw[addr_add];congr 3;omega
     ·simp at hs
    ·rename_i tt cs e1
     simp at hs;obtain ⟨rfl,rfl,rfl⟩:=hs;rw[e1] at rx;rw[← hh,← hc];have rx2:VR _ _ _ _:=rx;generalize hq:a.eval x=q at rx2;cases rx2 with
     |lp _ _ c o2 cc e fr vs h1 h2 h3 h4 h5 =>
      refine OpOk.pure hW (run _ hq) ?_;rw[addr_add];refine VR.lp _ _ c _ cc e fr (vs.drop fd.offset) h1 h2 (by simp[h3]) (fun i v hv=>?_) (fun i x v hx hv=>?_)
      ·rw[List.getElem?_drop] at hv
       rw[Nat.add_assoc];exact h4 _ v hv
      ·rw[List.getElem?_drop] at hx hv
       exact h5 _ x v hx hv
     |lp0 _ ad =>
      refine OpOk.pure hW (run _ hq) ?_;rw[List.drop_nil];exact VR.lp0 _ _
    ·rename_i g oo e1
     simp at hs;obtain ⟨rfl,rfl,rfl⟩:=hs;rw[e1] at rx;rw[← hh,← hc];have rx2:VR _ _ _ _:=rx;generalize hq:a.eval x=q at rx2;cases rx2
     refine OpOk.pure hW (run _ hq) ?_;rw[addr_add];exact VR.gp _ _
    ·simp at hs
   ·simp at hsz
  ·simp at hf
 ·simp at hf
end
section
variable {P:Program} {X:Cx} {E:Env} {s:St} {a:Act} {o:Oper} {G:Nat→List IV} {d:Nat} {v:AV} {h':Heap} {c':Nat}
def slT(P:Program)(t sz:Nat):Bool :=
  match P.underlying t with
  |some (.slice e)=>match P.info? e with
    |some i=>i.size==sz
    |none=>false
  |_=>false
theorem slT_eq{t sz:Nat}(h:slT P t sz=true):∃ e i,P.underlying t=some (.slice e)∧P.info? e=some i∧i.size=sz:=by
 unfold slT at h;split at h
 ·rename_i e hu
  split at h
  ·rename_i i hi
   simp at h;exact ⟨e,i,hu,hi,h⟩
  ·simp at h
 ·simp at h
theorem op_iadr(hW:WR X E)(hT:TR X E s a)(hh:E.h=s.hp)(hc:E.ct=s.ct){t sz:Nat}{x i:Operand}{x' i':Opd}(ho:o.op=.indexAddr t x i)
  (hx:okOpd x x'=true) (hi:okOpd i i'=true) (ht:slT P t sz=true) (hs:step G s d (.iadr sz x' i')=some (v,h',c')):OpOk P X E o a.eval v h' c':=by
 have rx:=ev_sound hT hx;have ri:=ev_sound hT hi;obtain ⟨e,it,hu,hit,hsz⟩:=slT_eq ht;have run:∀ ad len cap k (n:Nat),a.eval x=.slice (some ad) len cap→a.eval i=.int k n→n<len →
   (execOp a.eval o).run P E.w=.ok (.value (.pointer (some (ad.add (n*sz))))) E.w:=fun ad len cap k n h1 h2 h3=>by
  simp[execOp,ho,h1,h2,Instr.indexAt,run_underlying hu,asIntOf,h3,sizeOf,typeInfo,hit,hsz]
 simp only[step] at hs;split at hs
 ·rename_i b g off sz' len n e1 e2
  split at hs
  ·rename_i hcond
   obtain ⟨rfl,hlt,hcur⟩:=hcond;simp at hs;obtain ⟨rfl,rfl,rfl⟩:=hs;rw[e1] at rx;obtain ⟨k,hk⟩:=nat_sound ri e2;rw[← hh,← hc];obtain ⟨q1,q2,q3⟩:=rx;obtain ⟨q4,q5⟩:=q3 (by rw[hh];exact hcur);rcases q5 with ⟨cap,q5,_⟩|⟨q5,_⟩
   ·refine OpOk.pure hW (run _ _ _ _ _ q5 hk hlt) ⟨rfl,q2,fun _=>⟨by omega,?_⟩⟩
    rw[addr_add];congr 3;omega
   ·omega
  ·simp at hs
 ·rename_i tt cs len n e1 e2
  split at hs
  ·rename_i hcond
   obtain ⟨hlt,hlen⟩:=hcond;simp at hs;obtain ⟨rfl,rfl,rfl⟩:=hs;rw[e1] at rx;obtain ⟨k,hk⟩:=nat_sound ri e2;rw[← hh,← hc];have rx2:VR _ _ _ _:=rx;generalize hq:a.eval x=q at rx2;cases rx2 with
   |lit _ _ _ c o2 cap cc e fr vs h1 h2 h3 h4 h5 h6 =>
    refine OpOk.pure hW (run _ _ _ _ _ hq hk hlt) ?_;rw[addr_add];refine VR.lp _ _ c _ cc e fr ((vs.drop (n*sz)).take sz) h1 h2 (by simp[h3]) (fun i v hv=>?_) (fun i x v hx hv=>?_)
    ·rw[List.getElem?_take] at hv
     split at hv
     ·rw[List.getElem?_drop] at hv
      rw[Nat.add_assoc];exact h4 _ v hv
     ·simp at hv
    ·rw[List.getElem?_take] at hx hv
     split at hx
     ·rename_i hi2
      rw[if_pos hi2] at hv;rw[List.getElem?_drop] at hx hv;exact h5 _ x v hx hv
     ·simp at hx
   |lit0 _ _ cap ad h =>
    refine OpOk.pure hW (run _ _ _ _ _ hq hk hlt) ?_;simp;exact VR.lp0 _ _
  ·simp at hs
 ·simp at hs
def arrT(P:Program)(t len sz:Nat):Bool :=
  match P.underlying t with
  |some (.array n e)=>n==len&&(match P.info? e with
    |some i=>i.size==sz
    |none=>false)
  |_=>false
theorem arrT_eq{t len sz:Nat}(h:arrT P t len sz=true):∃ e i,P.underlying t=some (.array len e)∧P.info? e=some i∧i.size=sz:=by
 unfold arrT at h;split at h
 ·rename_i n e hu
  simp at h;obtain ⟨rfl,h⟩:=h;split at h
  ·rename_i i hi
   simp at h;exact ⟨e,i,hu,hi,h⟩
  ·simp at h
 ·simp at h
theorem op_iadrA(hW:WR X E)(hT:TR X E s a)(hh:E.h=s.hp)(hc:E.ct=s.ct){t len sz:Nat}{x i:Operand}{x' i':Opd}(ho:o.op=.indexAddr t x i)
  (hx:okOpd x x'=true) (hi:okOpd i i'=true) (ht:arrT P t len sz=true) (hs:step G s d (.iadrA len sz x' i')=some (v,h',c')):OpOk P X E o a.eval v h' c':=by
 have rx:=ev_sound hT hx;have ri:=ev_sound hT hi;obtain ⟨e,it,hu,hit,hsz⟩:=arrT_eq ht;have run:∀ ad k (n:Nat),a.eval x=.pointer (some ad)→a.eval i=.int k n→n<len →
   (execOp a.eval o).run P E.w=.ok (.value (.pointer (some (ad.add (n*sz))))) E.w:=fun ad k n h1 h2 h3=>by
  simp[execOp,ho,h1,h2,Instr.indexAt,run_underlying hu,asIntOf,Instr.sureAddr,h3,sizeOf,typeInfo,hit,hsz]
 simp only[step] at hs;split at hs
 ·rename_i b g off n e1 e2
  split at hs
  ·rename_i hcond
   obtain ⟨hlt,hcur⟩:=hcond;simp at hs;obtain ⟨rfl,rfl,rfl⟩:=hs;rw[e1] at rx;obtain ⟨k,hk⟩:=nat_sound ri e2;rw[← hh,← hc];obtain ⟨q1,q2,q3⟩:=rx;obtain ⟨q4,q5⟩:=q3 (by rw[hh];exact hcur);refine OpOk.pure hW (run _ _ _ q5 hk hlt) ⟨rfl,q2,fun _=>⟨by omega,?_⟩⟩;rw[addr_add];congr 3;omega
  ·simp at hs
 ·rename_i g off n e1 e2
  split at hs
  ·rename_i hlt
   simp at hs;obtain ⟨rfl,rfl,rfl⟩:=hs;rw[e1] at rx;obtain ⟨k,hk⟩:=nat_sound ri e2;rw[← hh,← hc];have rx2:VR _ _ _ _:=rx;generalize hq:a.eval x=q at rx2;cases rx2
   refine OpOk.pure hW (run _ _ _ hq hk hlt) ?_;rw[addr_add];exact VR.gp _ _
  ·simp at hs
 ·simp at hs
def okOpt:Option Operand→Option Opd→Bool
  |none,none=>true
  |some x,some y=>okOpd x y
  |_,_=>false
theorem bound_sound(hT:TR X E s a){x:Option Operand}{x':Option Opd}(hx:okOpt x x'=true){dflt n:Nat}(hb:bound dflt s x'=some n) :
  (x=none∧n=dflt)∨(∃ y k,x=some y∧a.eval y=.int k (n:Int)):=by
 unfold okOpt at hx;split at hx
 ·simp[bound] at hb;exact .inl ⟨rfl,hb.symm⟩
 ·rename_i y y'
  obtain ⟨k,hk⟩:=nat_sound (ev_sound hT hx) hb;exact .inr ⟨y,k,rfl,hk⟩
 ·simp at hx
theorem run_bounds(hT:TR X E s a){lo hi:Option Operand}{lo' hi':Option Opd}(hlo:okOpt lo lo'=true)(hhi:okOpt hi hi'=true){l h len cap:Nat}(h1:bound 0 s lo'=some l)
  (h2:bound len s hi'=some h) (h3:l≤h) (h4:h≤len) (h5:len≤cap) (b:Bool) (w:World):(Instr.sliceBounds b len cap (lo.map a.eval) (hi.map a.eval) none).run P w=.ok (l,h,cap) w:=by
 rcases bound_sound hT hlo h1 with ⟨rfl,rfl⟩|⟨y,k,rfl,hy⟩<;>rcases bound_sound hT hhi h2 with ⟨rfl,rfl⟩|⟨z,k2,rfl,hz⟩
 ·simp[Instr.sliceBounds]
 ·simp only[Instr.sliceBounds,Option.map_none,Option.map_some,Sem.run_bind,Sem.run_pure,Result.andThen_ok,hz]
  rw[run_sliceBound _ _ _ _ _ (by omega) (by omega)];simp
 ·simp only[Instr.sliceBounds,Option.map_none,Option.map_some,Sem.run_bind,Sem.run_pure,Result.andThen_ok,hy]
  rw[run_sliceBound _ _ _ _ _ (by omega) (by omega)];simp
 ·simp only[Instr.sliceBounds,Option.map_some,Sem.run_bind,Sem.run_pure,Result.andThen_ok,hy,hz]
  rw[run_sliceBound _ _ _ _ _ (by omega) (by omega)];simp only[Result.andThen_ok];rw[run_sliceBound _ _ _ _ _ (by omega) (by omega)];simp
theorem op_slcS(hW:WR X E)(hT:TR X E s a)(hh:E.h=s.hp)(hc:E.ct=s.ct){t:Nat}{x:Operand}{x':Opd}{lo hi:Option Operand}{lo' hi':Option Opd}(ho:o.op=.slice t x lo hi none)
  (hx:okOpd x x'=true) (hlo:okOpt lo lo'=true) (hhi:okOpt hi hi'=true) (ht:isStrT P t=true) (hs:step G s d (.slcS x' lo' hi')=some (v,h',c')):OpOk P X E o a.eval v h' c':=by
 have rx:=ev_sound hT hx;have hu:=isStrT_eq ht;simp only[step] at hs;split at hs
 ·rename_i l e1
  obtain ⟨z,hz,rfl⟩:=str_sound rx e1;split at hs
  ·rename_i p q e2 e3
   split at hs
   ·rename_i hcond
    obtain ⟨r,h1,rfl,rfl,rfl⟩:=okv_eq hs;simp at h1;subst h1;rw[← hh,← hc];have hl:z.data.toList.length=z.size:=Array.length_toList;rw[hl] at e3 hcond;have hb:=run_bounds (P:=P) hT hlo hhi e2 e3 hcond.1 hcond.2 (Nat.le_refl _) false E.w;refine OpOk.pure hW (x:=.string (z.extract p q)) ?_ (VR.str _ _ ?_)
    ·simp[execOp,ho,hz,Instr.sliceAt,run_underlying hu,Instr.slice,hb]
    ·rw[ByteArray.data_extract,Array.toList_extract]
   ·simp at hs
  ·simp at hs
 ·simp at hs
theorem op_slc(hW:WR X E)(hT:TR X E s a)(hh:E.h=s.hp)(hc:E.ct=s.ct){t sz:Nat}{x:Operand}{x':Opd}{lo hi:Option Operand}{lo' hi':Option Opd}(ho:o.op=.slice t x lo hi none)
  (hx:okOpd x x'=true) (hlo:okOpt lo lo'=true) (hhi:okOpt hi hi'=true) (ht:slT P t sz=true) (hs:step G s d (.slc sz x' lo' hi' none)=some (v,h',c')):OpOk P X E o a.eval v h' c':=by
 have rx:=ev_sound hT hx;obtain ⟨e,it,hu,hit,hsz⟩:=slT_eq ht;have run:∀ ad len cap p q,a.eval x=.slice ad len cap→bound 0 s lo'=some p→bound len s hi'=some q→p≤q→q≤len→len≤cap →
   (execOp a.eval o).run P E.w=.ok (.value (.slice (if cap=p then ad else ad.map (·.add (p*sz))) (q-p) (cap-p))) E.w:=fun ad len cap p q h1 h2 h3 h4 h5 h6=>by
  have hb:=run_bounds (P:=P) hT hlo hhi h2 h3 h4 h5 h6 true E.w;simp[execOp,ho,h1,Instr.sliceAt,run_underlying hu,Instr.slice,hb,sizeOf,typeInfo,hit,hsz]
 simp only[step] at hs;split at hs
 ·rename_i e1
  split at hs
  ·rename_i e2 e3 e4
   simp at hs;obtain ⟨rfl,rfl,rfl⟩:=hs;rw[e1] at rx;rw[← hh,← hc];have rx2:VR _ _ _ _:=rx;generalize hq:a.eval x=q at rx2;cases rx2
   have:=run none 0 0 0 0 hq e2 e3 (by omega) (by omega) (by omega)
   exact OpOk.pure hW this VR.nilS
  ·simp at hs
 ·rename_i e1
  split at hs
  ·rename_i e2 e3 e4
   simp at hs;obtain ⟨rfl,rfl,rfl⟩:=hs;rw[e1] at rx;rw[← hh,← hc];have rx2:VR _ _ _ _:=rx;generalize hq:a.eval x=q at rx2;cases rx2 with
   |emp ad =>
    have:=run (some ad) 0 0 0 0 hq e2 e3 (by omega) (by omega) (by omega)
    exact OpOk.pure hW this (VR.emp ad)
  ·simp at hs
 ·rename_i tt cs len e1
  split at hs
  ·rename_i p q e2 e3
   split at hs
   ·rename_i hcond
    obtain ⟨h4,h5,h6⟩:=hcond;simp at hs;obtain ⟨rfl,rfl,rfl⟩:=hs;rw[e1] at rx;rw[← hh,← hc];have rx2:VR _ _ _ _:=rx;generalize hq:a.eval x=qq at rx2;cases rx2 with
    |lit _ _ _ c o2 cap cc e fr vs g1 g2 g3 g4 g5 g6 =>
     have hr:=run _ len cap p q hq e2 e3 h4 h5 g6;by_cases hcp:cap=p
     ·have hqp:q-p=0:=by omega
      rw[if_pos hcp] at hr;refine OpOk.pure hW hr ?_;have h9:(cs.drop (p*sz)).take ((q-p)*sz)=[]:=by simp[hqp]
      rw[h9];exact VR.lit0 _ _ _ _ (by omega)
     ·rw[if_neg hcp] at hr
      refine OpOk.pure hW hr ?_;simp only[Option.map_some,addr_add];refine VR.lit _ _ _ c _ _ cc e fr ((vs.drop (p*sz)).take ((q-p)*sz)) g1 g2 (by simp[g3]) (fun i v hv=>?_) (fun i x v hx hv=>?_) (by omega)
      ·rw[List.getElem?_take] at hv
       split at hv
       ·rw[List.getElem?_drop] at hv
        rw[Nat.add_assoc];exact g4 _ v hv
       ·simp at hv
      ·rw[List.getElem?_take] at hx hv
       split at hx
       ·rename_i hi2
        rw[if_pos hi2] at hv;rw[List.getElem?_drop] at hx hv;exact g5 _ x v hx hv
       ·simp at hx
    |lit0 _ _ cap ad g =>
     have hr:=run _ len cap p q hq e2 e3 h4 h5 g;refine OpOk.pure hW hr ?_;simp only[List.drop_nil,List.take_nil];by_cases hcp:cap=p
     ·rw[if_pos hcp];exact VR.lit0 _ _ _ _ (by omega)
     ·rw[if_neg hcp];exact VR.lit0 _ _ _ _ (by omega)
   ·simp at hs
  ·simp at hs
 ·rename_i b g off sz' len e1
  split at hs
  ·rename_i p q e2 e3
   split at hs
   ·rename_i hcond
    obtain ⟨h4,h5,h6,hcur⟩:=hcond;subst h6;simp at hs;obtain ⟨rfl,rfl,rfl⟩:=hs;rw[e1] at rx;rw[← hh,← hc];obtain ⟨q1,q2,q3⟩:=rx;obtain ⟨q4,q5⟩:=q3 (by rw[hh];exact hcur);rcases q5 with ⟨cap,q5,q6,cs,e,fr,q7,q8⟩|⟨q5,ad,q6⟩
    ·have hr:=run _ len cap p q q5 e2 e3 h4 h5 q6
     by_cases hcp:cap=p
     ·have hqp:q-p=0:=by omega
      rw[if_pos hcp,hqp] at hr;have:cap-p=0:=by omega
      rw[this] at hr;refine OpOk.pure hW hr ⟨rfl,q2,fun _=>⟨by omega,.inr ⟨hqp,_,rfl⟩⟩⟩
     ·rw[if_neg hcp] at hr
      refine OpOk.pure hW hr ⟨rfl,q2,fun _=>⟨by omega,.inl ⟨cap-p,?_,by omega,cs,e,fr,q7,?_⟩⟩⟩
      ·simp only[Option.map_some,addr_add]
       congr 3;omega
      ·have:cap*sz'=p*sz'+(cap-p)*sz':=by rw[← Nat.add_mul];congr 1;omega
       omega
    ·subst q5
     have hr:=run _ 0 0 p q q6 e2 e3 h4 h5 (Nat.le_refl _);have hp0:p=0:=by omega
     have hq0:q=0:=by omega
     subst hp0;subst hq0;refine OpOk.pure hW hr ⟨rfl,q2,fun _=>⟨by omega,.inr ⟨rfl,ad,by simp⟩⟩⟩
   ·simp at hs
  ·simp at hs
 ·simp at hs
theorem op_slc0(hW:WR X E)(hT:TR X E s a)(hh:E.h=s.hp)(hc:E.ct=s.ct){t sz:Nat}{x hi mx:Operand}{x' hi' mx':Opd}{lo:Option Operand}{lo':Option Opd}(ho:o.op=.slice t x lo (some hi) (some mx))
  (hx:okOpd x x'=true) (hlo:okOpt lo lo'=true) (hhi:okOpd hi hi'=true) (hmx:okOpd mx mx'=true) (ht:slT P t sz=true) (hs:step G s d (.slc sz x' lo' (some hi') (some mx'))=some (v,h',c')):OpOk P X E o a.eval v h' c':=by
 have rx:=ev_sound hT hx;obtain ⟨e,it,hu,hit,hsz⟩:=slT_eq ht;have run:∀ ad len cap,a.eval x=.slice ad len cap→bound 0 s lo'=some 0→(ev s hi').nat=some 0→(ev s mx').nat=some 0 →
   (execOp a.eval o).run P E.w=.ok (.value (.slice ad 0 0)) E.w:=fun ad len cap h1 h2 h3 h4=>by
  obtain ⟨k1,e1⟩:=nat_sound (ev_sound hT hhi) h3;obtain ⟨k2,e2⟩:=nat_sound (ev_sound hT hmx) h4;simp only[Int.natCast_zero] at e1 e2;have b1:∀ (k:IntKind) (y:Nat) (c:BoundsCode),(Instr.sliceBound (.int k 0) y c).run P E.w=.ok 0 E.w:=fun k y c=>by
   have:=run_sliceBound (P:=P) E.w k 0 y c (by omega) (by omega);simpa using this
  have hb:(Instr.sliceBounds true len cap (lo.map a.eval) (some (a.eval hi)) (some (a.eval mx))).run P E.w=.ok (0,0,0) E.w:=by
   rcases bound_sound hT hlo h2 with ⟨rfl,_⟩|⟨y,k,rfl,hy⟩
   ·simp[Instr.sliceBounds,e1,e2,b1]
   ·simp only[Int.natCast_zero] at hy
    simp[Instr.sliceBounds,e1,e2,b1,hy]
  simp[execOp,ho,h1,Instr.sliceAt,run_underlying hu,Instr.slice,hb,sizeOf,typeInfo,hit,hsz]
 simp only[step,bound] at hs;split at hs
 ·rename_i e1
  split at hs
  ·rename_i e2 e3 e4
   simp at hs;obtain ⟨rfl,rfl,rfl⟩:=hs;rw[e1] at rx;rw[← hh,← hc];have rx2:VR _ _ _ _:=rx;generalize hq:a.eval x=q at rx2;cases rx2
   exact OpOk.pure hW (run none 0 0 hq e2 e3 e4) VR.nilS
  ·simp at hs
 ·rename_i e1
  split at hs
  ·rename_i e2 e3 e4
   simp at hs;obtain ⟨rfl,rfl,rfl⟩:=hs;rw[e1] at rx;rw[← hh,← hc];have rx2:VR _ _ _ _:=rx;generalize hq:a.eval x=q at rx2;cases rx2 with
   |emp ad=>exact OpOk.pure hW (run (some ad) 0 0 hq e2 e3 e4) (VR.emp ad)
  ·simp at hs
 ·rename_i tt cs len e1
  split at hs
  ·rename_i e2 e3 e4
   simp at hs;obtain ⟨rfl,rfl,rfl⟩:=hs;rw[e1] at rx;rw[← hh,← hc];have rx2:VR _ _ _ _:=rx;generalize hq:a.eval x=qq at rx2;cases rx2 with
   |lit _ _ _ c o2 cap cc e fr vs g1 g2 g3 g4 g5 g6=>exact OpOk.pure hW (run _ len cap hq e2 e3 e4) (VR.emp _)
   |lit0 _ _ cap ad g=>exact OpOk.pure hW (run _ len cap hq e2 e3 e4) (VR.emp _)
  ·simp at hs
 ·rename_i b g off sz' len e1
  split at hs
  ·rename_i e2 e3 e4
   split at hs
   ·rename_i hcur
    simp at hs;obtain ⟨rfl,rfl,rfl⟩:=hs;rw[e1] at rx;rw[← hh,← hc];obtain ⟨q1,q2,q3⟩:=rx;obtain ⟨q4,q5⟩:=q3 (by rw[hh];exact hcur);rcases q5 with ⟨cap,q5,_⟩|⟨q5,ad,q6⟩
    ·exact OpOk.pure hW (run _ len cap q5 e2 e3 e4) (VR.emp _)
    ·subst q5;exact OpOk.pure hW (run _ 0 0 q6 e2 e3 e4) (VR.emp _)
   ·simp at hs
  ·simp at hs
 ·simp at hs
theorem src_sound(hW:WR X E){sz tx:Nat}{b:AC}{y:Value}{new:List AC}{n:Nat}(r:CC X E b y)
  (hkk:(∃ l,b=.r (.i (.str l)))→P.underlying tx=some .string) (hks:(¬ ∃ l,b=.r (.i (.str l)))→∃ e',P.underlying tx=some (.slice e'))
  (e:slCells E.h sz b=some (new,n)):∃ vs,Src P sz tx y n vs E.w∧All2 (CC X E) new vs:=by
 unfold slCells at e;split at e
 ·simp at e;obtain ⟨rfl,rfl⟩:=e
  obtain ⟨e',he'⟩:=hks (by rintro ⟨l,h⟩;cases h);cases r
  exact ⟨[],Src.ofNil E.w he' 0,.nil⟩
 ·simp at e;obtain ⟨rfl,rfl⟩:=e
  obtain ⟨e',he'⟩:=hks (by rintro ⟨l,h⟩;cases h);cases r with
  |emp ad=>exact ⟨[],Src.ofSlice E.w he' ad 0 0 [] (by simp) (by simp) (by simp),.nil⟩
 ·rename_i tt cs m
  split at e
  ·rename_i hlen
   simp at e;obtain ⟨rfl,rfl⟩:=e;obtain ⟨e',he'⟩:=hks (by rintro ⟨l,h⟩;cases h);obtain ⟨ad,cap,vs,rfl,h1,h2,h3⟩:=lit_view (w:=E.w) r;have h4:=h2.map (S:=CC X E) I fun _ _ r=>r;exact ⟨vs,Src.ofSlice E.w he' ad m cap vs (by rw[h2.length,hlen]) h3 (All2.one h4),h4⟩
  ·simp at e
 ·rename_i bb g off sz' m
  split at e
  ·rename_i hsz
   subst hsz;split at e
   ·rename_i cs hrow
    split at e
    ·rename_i hlen
     simp at e;obtain ⟨rfl,rfl⟩:=e;obtain ⟨e',he'⟩:=hks (by rintro ⟨l,h⟩;cases h);obtain ⟨ad,cap,vs,rfl,h1,h2,h3,h4⟩:=sl_view hW r hrow hlen;exact ⟨vs,Src.ofSlice E.w he' ad m cap vs h2 h4 (All2.one h3),h3⟩
    ·simp at e
   ·simp at e
  ·simp at e
 ·rename_i l
  split at e
  ·rename_i hsz
   subst hsz;simp at e;obtain ⟨rfl,rfl⟩:=e;have he':=hkk ⟨l,rfl⟩;cases r with
   |str _ z hz =>
    subst hz;refine ⟨byteCells z,by rw[Array.length_toList];exact Src.ofString E.w he' z,?_⟩;unfold byteCells;generalize z.data.toList=l;induction l with
    |nil=>exact .nil
    |cons c l ih=>exact .cons (VR.int _ _) ih
  ·simp at e
 ·simp at e
end
section
variable {P:Program} {X:Cx} {E:Env} {s:St} {a:Act} {o:Oper} {G:Nat→List IV} {d:Nat} {v:AV} {h':Heap} {c':Nat}
def appT(P:Program)(t sz bytes:Nat):Bool :=
  match P.underlying t with
  |some (.slice e)=>match P.info? e with
    |some i=>i.size==sz&&i.bytes==bytes&&(match i.zero with|some z=>z.cells.size==sz|none=>false)
    |none=>false
  |_=>false
theorem appT_eq{t sz bytes:Nat}(h:appT P t sz bytes=true):∃ e i z,P.underlying t=some (.slice e)∧P.info? e=some i∧i.size=sz∧i.bytes=bytes∧i.zero=some z∧z.cells.size=sz:=by
 unfold appT at h;split at h
 ·rename_i e hu
  split at h
  ·rename_i i hi
   simp at h;obtain ⟨⟨h1,h2⟩,h3⟩:=h;split at h3
   ·rename_i z hz
    simp at h3;exact ⟨e,i,z,hu,hi,h1,h2,hz,h3⟩
   ·simp at h3
  ·simp at h
 ·simp at h
def srcT(P:Program)(tx:Nat)(str:Bool):Bool :=
  match P.underlying tx with
  |some (.slice _)=>!str
  |some .string=>str
  |_=>false
theorem src_sound2(hW:WR X E){sz tx:Nat}{str:Bool}{b:AC}{y:Value}{new:List AC}{n:Nat}(ht:srcT P tx str=true)(r:CC X E b y)
  (e:(if isStrC b=str then slCells E.h sz b else none)=some (new,n)):∃ vs,Src P sz tx y n vs E.w∧All2 (CC X E) new vs:=by
 split at e
 ·rename_i hstr
  refine src_sound hW r ?_ ?_ e
  ·rintro ⟨l,rfl⟩
   simp[isStrC] at hstr;subst hstr;unfold srcT at ht;split at ht<;>simp at ht;assumption
  ·intro hn
   have:isStrC b=false:=by
    unfold isStrC;split
    ·exact absurd ⟨_,rfl⟩ hn
    ·rfl
   rw[this] at hstr;subst hstr;unfold srcT at ht;split at ht<;>simp at ht;exact ⟨_,by assumption⟩
 ·simp at e
theorem fits{need old bytes:Nat}(h:old<need)(hb:need*bytes≤17592186044416):Builtin.nextslicecap need old*bytes≤281474976710656 :=
 growslice_fits h (Nat.le_trans hb (by decide))
theorem put_grow(hW:WR X E)(b:Nat){cs:List AC}{vs:List Value}(sh:Nat)(e:TypeId)(rest:List Value)(r:All2 (CC X E) (cs.drop sh) vs)(hsh:sh≤cs.length)(w:World)
    (hw:w.heap=E.w.heap.push (.cells (vs++rest).toArray e)) (ho:w.os=E.w.os) (ht:w.tape=E.w.tape) (hu:w.output=E.w.output) :
    ∃ E',E'.w=w∧E'.ct=E.ct+1∧E'.h.cur b=some E.ct∧E'.m b=(E.w.heap.size,sh)∧Put X E E' b (.cells E.ct cs) E.w.heap.size∧BR X E' b (.cells E.ct cs):=by
  let E':Env:={h:=E.h.set b (.cells E.ct cs),m:=fun k=>if k=b then (E.w.heap.size,sh) else E.m k,ct:=E.ct+1,w}
  have hP:Put X E E' b (.cells E.ct cs) E.w.heap.size :=
    { h:=rfl,ct:=Nat.le_succ _,gen:=Nat.lt_succ_self _,m:=fun b' hb=>by simp[E',hb],size:=by simp[E',hw],heap:=fun k hk _=>by simp only[E'];rw[hw,Array.getElem?_push,if_neg (by omega)],
      c0:=.inl (Nat.le_refl _),at_:=.inl (by simp[E']),old:=fun h=>by simp[Blk.gen] at h,os:=ho,tape:=ht,output:=hu }
  have hE:=hP.ext hW
  refine ⟨E',rfl,rfl,by simp[E',Heap.cur_set,Blk.gen],by simp[E'],hP,(vs++rest).toArray,e,(0,0),?_,.inr (Nat.le_refl _),by simpa[E'] using hsh,fun i x hi hx=>?_⟩
  · simp only[E',if_true]
    rw[hw,Array.getElem?_push]
    simp
  · simp only[E',if_true] at hi ⊢
    obtain ⟨v,hv,hr⟩:=r.get (i-sh) x (by rw[List.getElem?_drop];rw[show sh+(i-sh)=i from by omega];exact hx)
    refine ⟨v,?_,hr.ext hE⟩
    have:i-sh<vs.length:=(List.getElem?_eq_some_iff.1 hv).1
    simp[List.getElem?_append_left this,hv]
theorem run_app{t tx:Nat}{x y:Operand}(ho:o.op=.call {callee:=.builtin .append,args:=#[x,y],argTypes:=#[t,tx]}){z:Value}{w':World}
  (h:(Builtin.append_ #[t,tx] o.type #[a.eval x,a.eval y]).run P E.w=.ok z w'):(execOp a.eval o).run P E.w=.ok (.value z) w':=by
 simp[execOp,ho,resolve,invoke,builtin,h]
theorem run_app_none{t tx e:Nat}{i:TypeInfo}(hu:P.underlying t=some (.slice e))(hi:P.info? e=some i){base:Option Addr}{y:Value}(hsrc:Src P i.size tx y 0 [] E.w)(ty:TypeId) :
  (Builtin.append_ #[t,tx] ty #[.slice base 0 0,y]).run P E.w=.ok (.slice base 0 0) E.w:=by
 have h1:=hsrc.cells;rcases hsrc.kind with ⟨e',hk⟩|hk<;>cases base<;>simp[Builtin.append_,run_underlying hu,run_underlying hk,sizeOf,typeInfo,hi,hsrc.len,h1,storeCells]
structure SrcA(P:Program)(t tx e:TypeId)(i:TypeInfo)(z y:Value)(n:Nat)(news:List Value)(w:World):Prop where
  newsLen:news.length=n*i.size
  room:∀ (b off sLen sCap:Nat) (ty:TypeId),sLen+n≤sCap→(sLen+n)*i.bytes≤17592186044416→(∀ j,j<news.length→(w.cell? ⟨b,off+sLen*i.size+j,none⟩).isSome=true) →
    (∀ j,j<news.length→w.frozen? ⟨b,off+sLen*i.size+j,none⟩=false) →
    (Builtin.append_ #[t,tx] ty #[.slice (some ⟨b,off,none⟩) sLen sCap,y]).run P w=.ok (.slice (some ⟨b,off,none⟩) (sLen+n) sCap) (w.setCells b (off+sLen*i.size) news)
  grow:∀ (base:Option Addr) (sLen sCap:Nat) (olds:List Value) (ty:TypeId),(Builtin.firstCells i.size sLen (.slice base sLen sCap)).run P w.drew=.ok olds.toArray w.drew→sCap<sLen+n →
    (sLen+n)*i.bytes≤17592186044416→sLen+n≤17592186044416 →
    (Builtin.append_ #[t,tx] ty #[.slice base sLen sCap,y]).run P w=.ok (.slice (some ⟨w.heap.size,0,none⟩) (sLen+n) (grownCap w (sLen+n) sCap e))
      (w.drew.alloc (.cells ((olds++news).toArray++Builtin.zeroCells z.cells (grownCap w (sLen+n) sCap e-(sLen+n))) e))
  none:∀ (base:Option Addr) (ty:TypeId),n=0→news=[]→(Builtin.append_ #[t,tx] ty #[.slice base 0 0,y]).run P w=.ok (.slice base 0 0) w
theorem _root_.Go.Src.toA{t tx e:TypeId}{i:TypeInfo}{z y:Value}{n:Nat}{news:List Value}{w:World}(hu:P.underlying t=some (.slice e))(hi:P.info? e=some i)(hz:i.zero=some z)(h:Src P i.size tx y n news w):SrcA P t tx e i z y n news w :=
 ⟨h.newsLen,fun b off sLen sCap ty hr _ h1 h2=>run_append_room_src (P:=P) w t tx ty e i hu hi b off sLen sCap y n news h hr h1 h2,
  fun base sLen sCap olds ty ho hr h1 h2=>run_append_grow_src (P:=P) w t tx ty e i z hu hi hz base sLen sCap olds ho y n news h hr (by omega) (fits hr h1),
  fun base ty hn hv=>by
   subst hn;subst hv
   let E0:Env:={h:=[],m:=fun _=>(0,0),ct:=0,w:=w}
   exact run_app_none (E:=E0) hu hi h ty⟩
theorem app_grow(hW:WR X E){t tx e:Nat}{i:TypeInfo}{z:Value}{x y:Operand}(ho:o.op=.call {callee:=.builtin .append,args:=#[x,y],argTypes:=#[t,tx]})
  (hu:P.underlying t=some (.slice e)) (hi:P.info? e=some i) (hz:i.zero=some z) (hzs:z.cells.size=i.size) {base:Option Addr} {len cap n:Nat} (ex:a.eval x=.slice base len cap)
  {olds news:List Value} (hold:(Builtin.firstCells i.size len (.slice base len cap)).run P E.w.drew=.ok olds.toArray E.w.drew) (hol:olds.length=len*i.size) (hsrc:SrcA P t tx e i z (a.eval y) n news E.w)
  (hroom:cap<len+n) (hfit1:(len+n)*i.bytes≤17592186044416) (hfit2:len+n≤17592186044416) (b sh:Nat) {cs:List AC} (hsh:sh≤cs.length) (r:All2 (CC X E) (cs.drop sh) (olds++news)) :
  OpOk P X E o a.eval (.v (.c (.r (.sl b E.ct sh i.size (len+n))))) (E.h.set b (.cells E.ct cs)) (E.ct+1):=by
 have hrun:=hsrc.grow base len cap olds o.type hold hroom hfit1 hfit2;have hge:=grownCap_ge E.w (len+n) cap e;obtain ⟨E',f1,f2,f3,f4,f5,f6⟩:=put_grow hW b sh e (Builtin.zeroCells z.cells (grownCap E.w (len+n) cap e-(len+n))).toList (cs:=cs) (vs:=olds++news) r hsh
  (E.w.drew.alloc (.cells ((olds++news).toArray++Builtin.zeroCells z.cells (grownCap E.w (len+n) cap e-(len+n))) e))
  (by
   show E.w.heap.push _=_;congr 2;apply Array.ext';simp) rfl rfl rfl
 rw[← f2];rw[← f1] at hrun;refine OpOk.put (x:=.slice (some ⟨E.w.heap.size,0,none⟩) (len+n) (grownCap E.w (len+n) cap e)) hW f5 (run_app ho (by rw[ex];exact hrun)) f6 ⟨rfl,by rw[f2];exact Nat.lt_succ_self _,fun _=>?_⟩;rw[f4];refine ⟨Nat.le_refl _,.inl ⟨grownCap E.w (len+n) cap e,by simp,hge,(olds++news++(Builtin.zeroCells z.cells (grownCap E.w (len+n) cap e-(len+n))).toList).toArray,e,(0,0),?_,?_⟩⟩
 ·rw[f1]
  show (E.w.heap.push _)[_]?=_;simp
 ·have h1:=size_zeroCells z.cells (grownCap E.w (len+n) cap e-(len+n))
  have h2:=hsrc.newsLen;simp only[List.size_toArray,List.length_append,Array.length_toList,h1,h2,hzs,hol,Nat.sub_self,Nat.zero_add];rw[← Nat.add_mul,← Nat.add_mul];congr 1;omega
theorem app_room(hW:WR X E){t tx e:Nat}{i:TypeInfo}{z:Value}{x y:Operand}(ho:o.op=.call {callee:=.builtin .append,args:=#[x,y],argTypes:=#[t,tx]})
    (hu:P.underlying t=some (.slice e)) (hi:P.info? e=some i) {b off len cap n:Nat} {cs new:List AC} {g:Nat} (hget:E.h.get b=some (.cells g cs)) (hoff:(E.m b).2≤off)
    (ex:a.eval x=.slice (some ⟨(E.m b).1,off-(E.m b).2,none⟩) len cap) (hcap:CapOk E.w (E.m b).1 (off-(E.m b).2) i.size len cap) {news:List Value}
    (hlen:off+len*i.size≤cs.length) (hsrc:SrcA P t tx e i z (a.eval y) n news E.w) (rnew:All2 (CC X E) new news) (hroom:len+n≤cap) (hfit1:(len+n)*i.bytes≤17592186044416) :
    OpOk P X E o a.eval (.v (.c (.r (.sl b E.ct off i.size (len+n))))) (E.h.set b (.cells E.ct (cs.take (off+len*i.size)++new))) (E.ct+1):=by
  obtain ⟨⟨cc,e0,fr,r1,r2,r3,r4⟩,hgen,_⟩:=hW.blk b _ hget
  obtain ⟨q6,cs2,e2,fr2,q7,q8⟩:=hcap
  rw[r1] at q7
  have hcc:cc=cs2:=by injection q7 with q7;injection q7
  subst hcc
  have hfit:off-(E.m b).2+len*i.size+news.length≤cc.size:=by
    rw[← q8,hsrc.newsLen]
    have:(len+n)*i.size≤cap*i.size:=Nat.mul_le_mul_right _ hroom
    rw[Nat.add_mul] at this
    omega
  have hrun:=hsrc.room (E.m b).1 (off-(E.m b).2) len cap o.type hroom hfit1
    (fun j hj=>by rw[cell_of_heap r1,Array.getElem?_eq_getElem (by omega)];rfl) (fun j hj=>frozen_no r1 r2 (by omega))
  obtain ⟨cs',p1,p2,p3,p4,p5,p6,p7,p8,p9⟩:=setCells_heap (E.m b).1 news (off-(E.m b).2+len*i.size) E.w cc e0 fr r1
  let E':Env:={h:=E.h.set b (.cells E.ct (cs.take (off+len*i.size)++new)),m:=E.m,ct:=E.ct+1,w:=E.w.setCells (E.m b).1 (off-(E.m b).2+len*i.size) news}
  have hP:Put X E E' b (.cells E.ct (cs.take (off+len*i.size)++new)) (E.m b).1 :=
    { h:=rfl,ct:=Nat.le_succ _,gen:=Nat.lt_succ_self _,m:=fun _ _=>rfl,size:=by simp only[E'];rw[p6];exact Nat.le_refl _,heap:=fun k _ hk=>p5 k hk,c0:=.inr ⟨by simp[hget],rfl⟩,
      at_:=.inr ⟨by simp[hget],rfl⟩,old:=fun h=>by simp[Blk.gen] at h,os:=p7,tape:=p8,output:=p9 }
  have hE:=hP.ext hW
  have hB:BR X E' b (.cells E.ct (cs.take (off+len*i.size)++new)):=by
    refine ⟨cs',e0,fr,p1,by rw[p2];exact r2,by simp[E'];omega,fun k x hk hx=>?_⟩
    simp only[E'] at hk ⊢
    by_cases hk2:k<off+len*i.size
    · rw[List.getElem?_append_left (by simp;omega),List.getElem?_take_of_lt hk2] at hx
      obtain ⟨v,hv,hr⟩:=r4 k x hk hx
      exact ⟨v,by rw[p4 _ (by omega)];exact hv,hr.ext hE⟩
    · rw[List.getElem?_append_right (by simp;omega)] at hx
      have hlt:(cs.take (off+len*i.size)).length=off+len*i.size:=by simp;omega
      rw[hlt] at hx
      obtain ⟨v,hv,hr⟩:=rnew.get _ x hx
      have hk3:k-(off+len*i.size)<news.length:=(List.getElem?_eq_some_iff.1 hv).1
      refine ⟨v,?_,hr.ext hE⟩
      rw[p3 (k-(E.m b).2) (by omega) (by omega) (by omega)]
      rw[← hv]
      congr 1
      omega
  exact OpOk.put (x:=.slice (some ⟨(E.m b).1,off-(E.m b).2,none⟩) (len+n) cap) hW hP (run_app ho (by rw[ex];exact hrun)) hB
    ⟨rfl,Nat.lt_succ_self _,fun _=>⟨hoff,.inl ⟨cap,rfl,hroom,cs',e0,fr,p1,by rw[p2];exact q8⟩⟩⟩
theorem appTo_sound(hW:WR X E)(hh:E.h=s.hp)(hc:E.ct=s.ct){t tx e:Nat}{i:TypeInfo}{z:Value}{x y:Operand}
    (ho:o.op=.call {callee:=.builtin .append,args:=#[x,y],argTypes:=#[t,tx]}) (hu:P.underlying t=some (.slice e)) (hi:P.info? e=some i) (hz:i.zero=some z) (hzs:z.cells.size=i.size)
    {ca:AC} (rx:CC X E ca (a.eval x)) {new:List AC} {n:Nat} {news:List Value} (hsrc:SrcA P t tx e i z (a.eval y) n news E.w) (rnew:All2 (CC X E) new news)
    (hs:appTo s d i.size i.bytes ca new n=some (v,h',c')):OpOk P X E o a.eval v h' c':=by
  unfold appTo at hs
  have hnl:new.length=n*i.size:=by have:=rnew.length;have:=hsrc.newsLen;omega
  have zero:n=0→news=[]∧new=[]:=fun hn=>by
    subst hn
    exact ⟨by have:=hsrc.newsLen;simpa using this,by simpa using hnl⟩
  have empty:∀ base,a.eval x=.slice base 0 0→n≠0→n*i.bytes≤17592186044416∧n≤17592186044416 →
      OpOk P X E o a.eval (.v (.c (.r (.sl d E.ct 0 i.size n)))) (E.h.set d (.cells E.ct new)) (E.ct+1):=fun base hb hn hfit=>by
    have h:=app_grow hW ho hu hi hz hzs hb (olds:=[]) (by cases base<;>simp[Builtin.firstCells,loadCells,loadCellsFrom]) (by simp) hsrc (by omega) (by simpa using hfit.1) (by simpa using hfit.2) d 0 (Nat.zero_le _) (by simpa using rnew)
    simpa using h
  split at hs
  · have ex:a.eval x=.slice none 0 0:=by have rx:VR _ _ _ _:=rx;generalize a.eval x=q at rx;cases rx;rfl
    split at hs
    · rename_i hn
      simp at hs
      obtain ⟨rfl,rfl,rfl⟩:=hs
      subst hn
      obtain ⟨rfl,rfl⟩:=zero rfl
      rw[← hh,← hc]
      exact OpOk.pure hW (x:=.slice none 0 0) (run_app ho (by rw[ex];exact hsrc.none _ _ rfl rfl)) VR.nilS
    · rename_i hn
      split at hs
      · rename_i hfit
        simp at hs
        obtain ⟨rfl,rfl,rfl⟩:=hs
        rw[← hh,← hc]
        exact empty none ex hn hfit
      · simp at hs
  · obtain ⟨ad,ex⟩:∃ ad,a.eval x=.slice (some ad) 0 0:=by have rx:VR _ _ _ _:=rx;generalize a.eval x=q at rx;cases rx;exact ⟨_,rfl⟩
    split at hs
    · rename_i hn
      simp at hs
      obtain ⟨rfl,rfl,rfl⟩:=hs
      subst hn
      obtain ⟨rfl,rfl⟩:=zero rfl
      rw[← hh,← hc]
      exact OpOk.pure hW (x:=.slice (some ad) 0 0) (run_app ho (by rw[ex];exact hsrc.none _ _ rfl rfl)) (VR.emp ad)
    · rename_i hn
      split at hs
      · rename_i hfit
        simp at hs
        obtain ⟨rfl,rfl,rfl⟩:=hs
        rw[← hh,← hc]
        exact empty (some ad) ex hn hfit
      · simp at hs
  · rename_i b g off sz' len
    split at hs
    · rename_i cs hrow
      split at hs
      · rename_i hcond
        obtain ⟨hsz',hlen,hfit1,hfit2⟩:=hcond
        subst hsz'
        simp at hs
        obtain ⟨rfl,rfl,rfl⟩:=hs
        rw[← hh] at hrow
        rw[← hh,← hc]
        obtain ⟨hget,hcur⟩:=Heap.row_eq hrow
        obtain ⟨ad,cap,olds,ex,hcap,hol,rold,hcell⟩:=sl_view hW rx hrow hlen
        obtain ⟨q1,q2,q3⟩:=rx
        obtain ⟨q4,q5⟩:=q3 hcur
        by_cases hroom:len+n≤cap
        · rcases q5 with ⟨cap2,q5,q6⟩|⟨q5,ad2,q6⟩
          · have hcc:cap2=cap:=by rw[q5] at ex;injection ex
            subst hcc
            exact app_room hW ho hu hi hget q4 q5 q6 hlen hsrc rnew hroom hfit1
          · subst q5
            have hc0:0=cap:=by rw[q6] at ex;injection ex
            subst hc0
            have hn0:n=0:=by omega
            subst hn0
            obtain ⟨rfl,rfl⟩:=zero rfl
            obtain ⟨⟨cc,e0,fr,r1,r2,r3,r4⟩,hgen,_⟩:=hW.blk b _ hget
            let E':Env:={h:=E.h.set b (.cells E.ct (cs.take (off+0*i.size)++[])),m:=E.m,ct:=E.ct+1,w:=E.w}
            have hP:Put X E E' b (.cells E.ct (cs.take (off+0*i.size)++[])) (E.m b).1 :=
              { h:=rfl,ct:=Nat.le_succ _,gen:=Nat.lt_succ_self _,m:=fun _ _=>rfl,size:=Nat.le_refl _,heap:=fun k _ hk=>rfl,c0:=.inr ⟨by simp[hget],rfl⟩,
                at_:=.inr ⟨by simp[hget],rfl⟩,old:=fun h=>by simp[Blk.gen] at h,os:=rfl,tape:=rfl,output:=rfl }
            have hE:=hP.ext hW
            have hB:BR X E' b (.cells E.ct (cs.take (off+0*i.size)++[])):=by
              refine ⟨cc,e0,fr,r1,r2,by simp[E'];omega,fun k x hk hx=>?_⟩
              rw[List.append_nil] at hx
              show ∃ v,cc[k-(E.m b).2]?=some v∧CC X E' x v
              rw[List.getElem?_take] at hx
              split at hx
              · obtain ⟨v,hv,hr⟩:=r4 k x hk hx
                exact ⟨v,hv,hr.ext hE⟩
              · simp at hx
            exact OpOk.put (x:=.slice (some ad2) 0 0) hW hP (run_app ho (by rw[q6];exact hsrc.none _ _ rfl rfl)) hB
              ⟨rfl,Nat.lt_succ_self _,fun _=>⟨q4,.inr ⟨rfl,ad2,rfl⟩⟩⟩
        · have hcell2:∀ (j:Nat) (v:Value),olds[j]?=some v→E.w.drew.cell? (ad.add j)=some v:=by simpa using hcell
          refine app_grow hW ho hu hi hz hzs ex (run_firstCells_some (P:=P) E.w.drew i.size len ad len cap olds hol hcell2) hol hsrc (by omega) hfit1 hfit2 b off (by simp;omega) ?_
          rw[List.drop_append_of_le_length (by simp;omega)]
          refine All2.append ?_ rnew
          rw[List.drop_take]
          have:off+len*i.size-off=len*i.size:=by omega
          rw[this]
          exact rold
      · simp at hs
    · simp at hs
  · simp at hs
theorem op_app(hW:WR X E)(hT:TR X E s a)(hh:E.h=s.hp)(hc:E.ct=s.ct){t tx sz bytes:Nat}{str:Bool}{x y:Operand}{x' y':Opd}
  (ho:o.op=.call {callee:=.builtin .append,args:=#[x,y],argTypes:=#[t,tx]})
  (hx:okOpd x x'=true) (hy:okOpd y y'=true) (ht:appT P t sz bytes=true) (htx:srcT P tx str=true)
  (hs:step G s d (.app sz bytes str x' y')=some (v,h',c')):OpOk P X E o a.eval v h' c':=by
 have rx:=ev_sound hT hx;have ry:=ev_sound hT hy;obtain ⟨e,i,z,hu,hi,hsz,hby,hz,hzs⟩:=appT_eq ht;simp only[step] at hs;split at hs
 ·rename_i ca cb e1 e2
  rw[e1] at rx;rw[e2] at ry;split at hs
  ·rename_i new n e3
   rw[← hh] at e3;obtain ⟨news,hsrc,rnew⟩:=src_sound2 hW htx (b:=cb) ry e3;subst hsz;subst hby;exact appTo_sound hW hh hc ho hu hi hz hzs rx (hsrc.toA hu hi hz) rnew hs
  ·simp at hs
 ·simp at hs
end
section
variable {P:Program} {X:Cx} {E:Env} {s:St} {a:Act} {o:Oper} {G:Nat→List IV} {d:Nat} {v:AV} {h':Heap} {c':Nat}
/- Parts laid over cells. -/
theorem foldl_zip(off:Nat):∀ (vs:List Value) (k:Nat) (cells:Array Value),off+k+vs.length≤cells.size →
  (vs.zipIdx k).foldl (fun cs (p:Value×Nat)=>cs.setIfInBounds (off+p.2) p.1) cells=(cells.toList.take (off+k)++vs++cells.toList.drop (off+k+vs.length)).toArray
 |[],k,cells,h=>by simp
 |v::vs,k,cells,h=>by
  simp only[List.zipIdx_cons,List.foldl_cons]
  simp only[List.length_cons] at h
  rw[foldl_zip off vs (k+1) _ (by simp;omega)]
  apply Array.ext'
  simp only[Array.toList_setIfInBounds]
  apply List.ext_getElem?
  intro i
  have e1:off+(k+1)=off+k+1:=by omega
  have e2:off+k+1+vs.length=off+k+(vs.length+1):=by omega
  rw[e1,e2]
  have hl:(cells.toList.set (off+k) v).take (off+k+1)=cells.toList.take (off+k)++[v]:=by
   rw[List.take_set,List.take_succ_eq_append_getElem (by simp;omega),List.set_append_right _ _ (by simp;omega)]
   simp
   rw[Nat.min_eq_left (by omega)]
   simp
  have hr:(cells.toList.set (off+k) v).drop (off+k+(vs.length+1))=cells.toList.drop (off+k+(vs.length+1)):=by
   rw[List.drop_set_of_lt (by omega)]
  rw[hl,hr]
  simp
theorem fill_step{cells:Array Value}{off size:Nat}{v:Value}(h1:v.cells.size=size)(h2:off+size≤cells.size) :
  v.cells.zipIdx.foldl (fun cs (c,j)=>cs.setIfInBounds (off+j) c) cells=(cells.toList.take off++v.cells.toList++cells.toList.drop (off+size)).toArray:=by
 have h:=foldl_zip off v.cells.toList 0 cells (by simp;omega);simp only[Nat.add_zero,Array.length_toList,h1] at h;rw[← h,← Array.foldl_toList];simp
theorem All2.lay{cs new:List AC}{vs ns:List Value}(h:All2 (CC X E) cs vs)(hn:All2 (CC X E) new ns)(off:Nat):All2 (CC X E) (lay cs off new) (vs.take off++ns++vs.drop (off+ns.length)):=by
 unfold Abs.lay;rw[hn.length];exact ((h.take off).append hn).append (h.drop _)
def PartR(X:Cx)(E:Env)(p:Nat×A1)(q:Nat×Value):Prop:=p.1=q.1∧A1R X E p.2 q.2
theorem fillP_sound(places:List (Nat×Nat)):∀ (ps:List (Nat×A1)) (qs:List (Nat×Value)) (cells:List AC) (cc:Array Value) (cs:List AC),All2 (PartR X E) ps qs→All2 (CC X E) cells cc.toList →
  fillP places cells ps=some cs→∃ cc',Instr.fill (places.toArray[·]?) cc qs=some cc'∧All2 (CC X E) cs cc'.toList
 |[],_,cells,cc,cs,hp,hc,e=>by
  cases hp
  simp[fillP] at e
  subst e
  exact ⟨cc,rfl,hc⟩
 |(i,v)::ps,_,cells,cc,cs,hp,hc,e=>by
  cases hp with
  |@cons _ q _ qs h1 h2 =>
   obtain ⟨i',v'⟩:=q
   obtain ⟨rfl,hv⟩:=h1
   simp only[fillP] at e
   split at e
   ·simp at e
   ·rename_i off n hpl
    split at e
    ·rename_i hcond
     obtain ⟨e1,e2⟩:=hcond
     have hcs:=cells_sound hv
     have hl1:=hcs.length
     have hl2:=hc.length
     simp at hl1 hl2
     have hsz:v'.cells.size=n:=by omega
     have hfit:off+n≤cc.size:=by omega
     obtain ⟨cc',q1,q2⟩:=fillP_sound places ps qs (lay cells off v.cells) (cc.toList.take off++v'.cells.toList++cc.toList.drop (off+n)).toArray cs h2
      (by
       have:=hc.lay hcs off
       simp only[Array.length_toList,hsz] at this
       exact this) e
     refine ⟨cc',?_,q2⟩
     have hpl':places.toArray[i]?=some (off,n):=by simpa using hpl
     simp only[Instr.fill,hpl']
     rw[if_neg (by simp[hsz];omega),fill_step hsz hfit]
     exact q1
    ·simp at e
theorem fillS_sound(sz:Nat):∀ (ps:List (Nat×A1)) (qs:List (Nat×Value)) (cells:List AC) (cc:Array Value) (cs:List AC),All2 (PartR X E) ps qs→All2 (CC X E) cells cc.toList →
  fillS sz cells ps=some cs→∃ cc',Instr.fill (fun i=>some (i*sz,sz)) cc qs=some cc'∧All2 (CC X E) cs cc'.toList
 |[],_,cells,cc,cs,hp,hc,e=>by
  cases hp
  simp[fillS] at e
  subst e
  exact ⟨cc,rfl,hc⟩
 |(i,v)::ps,_,cells,cc,cs,hp,hc,e=>by
  cases hp with
  |@cons _ q _ qs h1 h2 =>
   obtain ⟨i',v'⟩:=q
   obtain ⟨rfl,hv⟩:=h1
   simp only[fillS] at e
   split at e
   ·rename_i hcond
    obtain ⟨e1,e2⟩:=hcond
    have hcs:=cells_sound hv
    have hl1:=hcs.length
    have hl2:=hc.length
    simp at hl1 hl2
    have hsz:v'.cells.size=sz:=by omega
    have hfit:i*sz+sz≤cc.size:=by omega
    obtain ⟨cc',q1,q2⟩:=fillS_sound sz ps qs (lay cells (i*sz) v.cells) (cc.toList.take (i*sz)++v'.cells.toList++cc.toList.drop (i*sz+sz)).toArray cs h2
     (by
      have:=hc.lay hcs (i*sz)
      simp only[Array.length_toList,hsz] at this
      exact this) e
    refine ⟨cc',?_,q2⟩
    simp only[Instr.fill]
    rw[if_neg (by simp[hsz];omega),fill_step hsz hfit]
    exact q1
   ·simp at e
def okParts:List (Nat×Operand)→List (Nat×Opd)→Bool
  |[],[]=>true
  |(i,x)::l,(j,y)::m=>i==j&&okOpd x y&&okParts l m
  |_,_=>false
theorem parts_sound(hT:TR X E s a):∀ {l:List (Nat×Operand)} {m:List (Nat×Opd)} {ps:List (Nat×A1)},okParts l m=true →
  traverse (fun p:Nat×Opd=>(ev s p.2).one.map fun a=>(p.1,a)) m=some ps→All2 (PartR X E) ps (l.map fun p=>(p.1,a.eval p.2))
 |[],[],ps,_,e=>by simp[traverse] at e;subst e;exact .nil
 |(i,x)::l,(j,y)::m,ps,h,e=>by
  simp[okParts] at h
  obtain ⟨⟨rfl,h1⟩,h2⟩:=h
  simp only[traverse] at e
  split at e
  ·simp at e
  ·rename_i b hb
   split at e
   ·simp at e
   ·rename_i bs hbs
    simp at e
    subst e
    refine .cons ?_ (parts_sound hT h2 hbs)
    have r:=ev_sound hT h1
    cases hq:ev s y with
    |v w =>
     rw[hq] at r
     simp[hq,AV.one] at hb
     subst hb
     exact ⟨rfl,r⟩
    |und=>simp[hq,AV.one] at hb
    |skp=>simp[hq,AV.one] at hb
    |tup l=>simp[hq,AV.one] at hb
 |[],_::_,_,h,_=>by simp[okParts] at h
 |_::_,[],_,h,_=>by simp[okParts] at h
def buildOk(P:Program)(t:Nat)(zero:List IV)(places:List (Nat×Nat)):Bool :=
  match P.info? t,P.underlying t with
  |some it,some (.struct fields)=>match it.zero,fields.toList.mapM (fun f=>(P.info? f.type).map fun i=>(f.offset,i.size)) with
    |some z,some pl=>constIVs z.cells.toList zero&&pl==places
    |_,_=>false
  |_,_=>false
theorem op_build(hW:WR X E)(hT:TR X E s a)(hh:E.h=s.hp)(hc:E.ct=s.ct){t:Nat}{zero:List IV}{places:List (Nat×Nat)}{parts:Array (Nat×Operand)}{parts':List (Nat×Opd)}
  (ho:o.op=.build t parts) (hp:okParts parts.toList parts'=true) (hb:buildOk P t zero places=true) (hs:step G s d (.build zero places parts')=some (v,h',c')):OpOk P X E o a.eval v h' c':=by
 unfold buildOk at hb;split at hb
 ·rename_i it fields hi hu
  split at hb
  ·rename_i z pl hz hpl
   simp at hb;obtain ⟨hb1,rfl⟩:=hb;simp only[step] at hs;split at hs
   ·rename_i ps hps
    obtain ⟨a1,h1,rfl,rfl,rfl⟩:=ok1_eq hs;cases hfl:fillP pl (zero.map I) ps with
    |none=>simp[hfl] at h1
    |some cs =>
     simp[hfl] at h1;subst h1;have hpr:=parts_sound hT hp hps;have hz2:All2 (CC X E) (zero.map I) z.cells.toList:=(constIVs_sound (p:=okc X E) (h:=E.w.heap) hb1).map I fun _ _ r=>r;obtain ⟨cc',q1,q2⟩:=fillP_sound pl ps _ _ _ cs hpr hz2 hfl;rw[← hh,← hc];refine OpOk.pure hW (x:=.agg cc') ?_ ⟨cc'.toList,by simp,q2⟩;have hbt:P.built t (parts.map fun (i,x)=>(i,a.eval x)).toList=some cc':=by
      unfold Program.built;simp only[hi,hu,hz,hpl];rw[← q1];congr 1;simp
     simp[execOp,ho,run_build E.w t _ cc' hbt]
   ·simp at hs
  ·simp at hb
 ·simp at hb
theorem rep_get(zero:List IV):∀ (n i:Nat),i<n*zero.length→(repC n zero)[i]?=(zero[i % zero.length]?).map I
 |0,i,h=>by simp at h
 |n+1,i,h=>by
  simp only[repC]
  by_cases hi:i<zero.length
  ·rw[List.getElem?_append_left (by simpa using hi),List.getElem?_map,Nat.mod_eq_of_lt hi]
  ·rw[List.getElem?_append_right (by simp;omega)]
   simp only[List.length_map]
   rw[rep_get zero n (i-zero.length) (by rw[Nat.add_mul] at h;omega)]
   congr 2
   conv=>rhs;rw[show i=i-zero.length+zero.length from by omega]
   rw[Nat.add_mod_right]
theorem rep_length(zero:List IV):∀ n,(repC n zero).length=n*zero.length
 |0=>by simp[repC]
 |n+1=>by simp[repC,rep_length zero n,Nat.add_mul];omega
theorem rep_sound{z:Array Value}{zero:List IV}(h:All2 (VR (okc X E) E.w.heap) zero z.toList)(n:Nat):All2 (CC X E) (repC n zero) ((Array.range (n*zero.length)).map (z[· % z.size]!)).toList:=by
 have hl:=h.length;simp at hl;refine All2.of_get (by simp[rep_length]) fun i x v hx hv=>?_;have hi:i<n*zero.length:=by
  have:=(List.getElem?_eq_some_iff.1 hx).1
  rwa [rep_length] at this
 rw[rep_get zero n i hi] at hx;have hpos:0<zero.length:=by
  rcases Nat.eq_zero_or_pos zero.length with h0|h0
  ·simp[h0] at hi
  ·exact h0
 have hm:i % zero.length<zero.length:=Nat.mod_lt _ hpos;rw[List.getElem?_eq_getElem hm] at hx;simp at hx;subst hx;simp[hi] at hv;obtain ⟨b,hb,hr⟩:=h.get (i % zero.length) _ (List.getElem?_eq_getElem hm);have:b=v:=by
  rw[← hv,hl];rw[getElem!_pos z (i % zero.length) (by omega)];have h2:=(List.getElem?_eq_some_iff.1 hb).2;rw[← h2];simp
 subst this;exact hr
def bslT(P:Program)(t sz:Nat)(zero:List IV):Bool :=
  match P.underlying t with
  |some (.slice e)=>match P.info? e with
    |some i=>i.size==sz&&(match i.zero with|some z=>constIVs z.cells.toList zero|none=>false)
    |none=>false
  |_=>false
theorem bslT_eq{t sz:Nat}{zero:List IV}(h:bslT P t sz zero=true):∃ e i z,P.underlying t=some (.slice e)∧P.info? e=some i∧i.size=sz∧i.zero=some z∧∀ p hh,All2 (VR p hh) zero z.cells.toList:=by
 unfold bslT at h;split at h
 ·rename_i e hu
  split at h
  ·rename_i i hi
   simp at h;obtain ⟨h1,h3⟩:=h;split at h3
   ·rename_i z hz
    exact ⟨e,i,z,hu,hi,h1,hz,fun p hh=>constIVs_sound h3⟩
   ·simp at h3
  ·simp at h
 ·simp at h
theorem rd0{cs:List AC}{vs:List IV}{ws:List Value}(h:All2 (CC X E) cs ws)(e:traverse (rd (fun _=>false) E.h 0 0) cs=some vs):All2 (VR (okc X E) E.w.heap) vs ws:=by
 refine h.of_traverse (fun x w iv r e=>?_) e;cases x with
 |r a=>cases a with
  |i y=>simp[rd] at e;subst e;exact r
  |_=>simp[rd] at e
 |clo f caps=>simp[rd] at e
theorem lit_new(hW:WR X E){vs:List IV}{ws:List Value}(r:All2 (VR (okc X E) E.w.heap) vs ws)(e:TypeId)(len cap:Nat)(hcap:len≤cap)(w:World)(rest:List Value)(fr:Nat×Nat)
  (hw:w.heap=E.w.heap.push (.cells (ws++rest).toArray e fr)) (ho:w.os=E.w.os) (ht:w.tape=E.w.tape) (hu:w.output=E.w.output) :
  ∃ E',E'.w=w∧E'.h=E.h∧E'.ct=E.ct∧WR X E'∧Ext X E E'∧E.w.heap.size≤E'.w.heap.size∧VR (okc X E') E'.w.heap (.lit 0 vs len) (.slice (some ⟨E.w.heap.size,0,none⟩) len cap):=by
 let E':Env:={h:=E.h,m:=E.m,ct:=E.ct,w}
 have hS:Same E E':=⟨rfl,rfl,rfl,by simp[E',hw],fun k hk=>by simp only[E'];rw[hw,Array.getElem?_push,if_neg (by omega)],ho,ht,hu⟩;refine ⟨E',rfl,rfl,rfl,hS.wr hW,hS.ext,hS.size,?_⟩;refine VR.lit 0 vs len E.w.heap.size 0 cap (ws++rest).toArray e fr ws (.inl ⟨hW.size,?_⟩) (by simp only[E'];rw[hw,Array.getElem?_push];simp) r.length (fun i v hv=>?_) (fun i x v hx hv=>?_) hcap
 ·rintro (⟨b,h1,h2⟩|hH)
  ·obtain ⟨y,hy⟩:=Option.isSome_iff_exists.1 h1
   have:=hW.lt hy
   simp only[E'] at h2;omega
  ·obtain ⟨o,ho⟩:=Option.isSome_iff_exists.1 hH
   have:=(Array.getElem?_eq_some_iff.1 (hW.hid _ o ho).1).1
   omega
 ·have:i<ws.length:=(List.getElem?_eq_some_iff.1 hv).1
  simp[List.getElem?_append_left this,hv]
 ·obtain ⟨b,hb,hr⟩:=r.get i x hx
  rw[hv] at hb;simp at hb;subst hb;exact hr.mono hS.ext.ok
theorem op_bsl(hW:WR X E)(hT:TR X E s a)(hh:E.h=s.hp)(hc:E.ct=s.ct){t sz len:Nat}{zero:List IV}{own:Bool}{parts:Array (Nat×Operand)}{parts':List (Nat×Opd)}
  (ho:o.op=.buildSlice t len parts) (hp:okParts parts.toList parts'=true) (hb:bslT P t sz zero=true) (hs:step G s d (.bsl sz len zero parts' own)=some (v,h',c')):OpOk P X E o a.eval v h' c':=by
 obtain ⟨e,i,z,hu,hi,hsz,hz,rz⟩:=bslT_eq hb;simp only[step] at hs;split at hs
 ·rename_i ps hps
  split at hs
  ·rename_i hcond
   obtain ⟨hmax,hzl⟩:=hcond;split at hs
   ·rename_i cs hcs
    have hpr:=parts_sound hT hp hps;have hz2:=rep_sound (X:=X) (E:=E) (rz (okc X E) E.w.heap) len;rw[hzl] at hz2;obtain ⟨cc',q1,q2⟩:=fillS_sound sz ps _ _ _ cs hpr hz2 hcs;have hqs:(parts.map fun (i,x)=>(i,a.eval x)).toList=parts.toList.map fun p=>(p.1,a.eval p.2):=by simp
    have hrun:(execOp a.eval o).run P E.w=.ok (.value (.slice (some ⟨E.w.heap.size,0,none⟩) len len)) (E.w.alloc (.cells cc' e)):=by
     have hz0:len*sz=0∨len*sz≠0:=by omega
     rcases hz0 with hz0|hz0
     ·have:(Array.range 0:Array Nat)=#[]:=rfl
      rw[hz0,this] at q1;simp only[Array.map_empty] at q1;simp[execOp,ho,Instr.buildSlice,run_underlying hu,sizeOf,typeInfo,hi,hsz,hz0,this,q1,newRow]
     ·have hm:¬ (16777216<len*sz):=by omega
      simp[execOp,ho,Instr.buildSlice,run_underlying hu,sizeOf,typeInfo,hi,hsz,hz0,zeroValue,hz,hm,q1,newRow]
    split at hs
    ·simp at hs
     obtain ⟨rfl,rfl,rfl⟩:=hs;obtain ⟨hP,hB⟩:=put_new hW d e (0,0) [] q2 (E.w.alloc (.cells cc' e)) (by simp only[List.append_nil,Array.toArray_toList];rfl) (.inr (Nat.le_refl _)) rfl rfl rfl;rw[← hh,← hc];refine OpOk.put hW hP (x:=.slice (some ⟨E.w.heap.size,0,none⟩) len len) hrun hB ⟨rfl,Nat.lt_succ_self _,fun _=>?_⟩;simp only[Env.new,if_true,Nat.sub_zero];refine ⟨Nat.le_refl _,.inl ⟨len,rfl,Nat.le_refl _,cc',e,(0,0),?_,?_⟩⟩
     ·show (E.w.heap.push _)[_]?=_
      simp
     ·have h1:=q2.length
      have:cs.length=len*sz:=by
       have h2:∀ (ps:List (Nat×A1)) (c0 c1:List AC),fillS sz c0 ps=some c1→c1.length=c0.length:=by
        intro ps;induction ps with
        |nil=>intro c0 c1 h;simp[fillS] at h;rw[h]
        |cons p ps ih =>
         intro c0 c1 h;obtain ⟨i,v⟩:=p;simp only[fillS] at h;split at h
         ·rename_i hc2
          rw[ih _ _ h,lay_length (by omega)]
         ·simp at h
       rw[h2 _ _ _ hcs,rep_length,hzl]
      simp at h1;omega
    ·split at hs
     ·rename_i vs hvs
      simp at hs;obtain ⟨rfl,rfl,rfl⟩:=hs;rw[← hh] at hvs;have r:=rd0 q2 hvs;obtain ⟨E',f1,f2,f3,f4,f5,f6,f7⟩:=lit_new hW r e len len (Nat.le_refl _) (E.w.alloc (.cells cc' e)) [] (0,0) (by simp only[List.append_nil,Array.toArray_toList];rfl) rfl rfl rfl;exact ⟨E',_,by rw[f1];exact hrun,by rw[f2,hh],by rw[f3,hc],f4,f5,f6,.inl ⟨_,rfl,f7⟩⟩
     ·simp at hs
   ·simp at hs
  ·simp at hs
 ·simp at hs
def mkslT(P:Program)(t sz bytes:Nat)(zero:List IV):Bool :=
  match P.underlying t with
  |some (.slice e)=>match P.info? e with
    |some i=>i.size==sz&&i.bytes==bytes&&(match i.zero with|some z=>constIVs z.cells.toList zero|none=>false)
    |none=>false
  |_=>false
theorem mkslT_eq{t sz bytes:Nat}{zero:List IV}(h:mkslT P t sz bytes zero=true):∃ e i z,P.underlying t=some (.slice e)∧P.info? e=some i∧i.size=sz∧i.bytes=bytes∧i.zero=some z∧∀ p hh,All2 (VR p hh) zero z.cells.toList:=by
 unfold mkslT at h;split at h
 ·rename_i e hu
  split at h
  ·rename_i i hi
   simp at h;obtain ⟨⟨h1,h2⟩,h3⟩:=h;split at h3
   ·rename_i z hz
    exact ⟨e,i,z,hu,hi,h1,h2,hz,fun p hh=>constIVs_sound h3⟩
   ·simp at h3
  ·simp at h
 ·simp at h
theorem op_mksl(hW:WR X E)(hT:TR X E s a)(hh:E.h=s.hp)(hc:E.ct=s.ct){t sz bytes:Nat}{zero:List IV}{x y:Operand}{x' y':Opd}
  (ho:o.op=.makeSlice t x y) (hx:okOpd x x'=true) (hy:okOpd y y'=true) (hb:mkslT P t sz bytes zero=true) (hs:step G s d (.mksl sz bytes zero x' y')=some (v,h',c')):OpOk P X E o a.eval v h' c':=by
 obtain ⟨e,i,z,hu,hi,hsz,hby,hz,rz⟩:=mkslT_eq hb;simp only[step] at hs;split at hs
 ·rename_i n c e1 e2
  obtain ⟨k1,f1⟩:=nat_sound (ev_sound hT hx) e1;obtain ⟨k2,f2⟩:=nat_sound (ev_sound hT hy) e2;split at hs
  ·rename_i hcond
   obtain ⟨rfl,hb1,hb2,hzl⟩:=hcond;simp at hs;obtain ⟨rfl,rfl,rfl⟩:=hs;have hb':(i.bytes:Int)*(n:Int)≤281474976710656:=by
    have h:((i.bytes*n:Nat):Int)≤281474976710656:=by rw[hby];omega
    rwa [Int.natCast_mul] at h
   have hr:=run_make (P:=P) E.w t e i z hu hi hz k1 k2 n n (by omega) (Int.le_refl _) hb' (by omega);simp only[Int.toNat_natCast,hsz] at hr;have hz2:=rep_sound (X:=X) (E:=E) (rz (okc X E) E.w.heap) n;rw[hzl] at hz2;obtain ⟨hP,hB⟩:=put_new hW d e (0,0) [] hz2 (E.w.alloc (.cells (madeCells z.cells (n*sz)) e)) (by simp only[List.append_nil,Array.toArray_toList];rfl) (.inr (Nat.le_refl _)) rfl rfl rfl;rw[← hh,← hc];refine OpOk.put hW hP (x:=.slice (some ⟨E.w.heap.size,0,none⟩) n n) (by simp[execOp,ho,f1,f2,hr];rfl) hB ⟨rfl,Nat.lt_succ_self _,fun _=>?_⟩;simp only[Env.new,if_true,Nat.sub_zero];refine ⟨Nat.le_refl _,.inl ⟨n,rfl,Nat.le_refl _,madeCells z.cells (n*sz),e,(0,0),?_,?_⟩⟩
   ·show (E.w.heap.push _)[_]?=_
    simp
   ·rw[size_madeCells];simp
  ·simp at hs
 ·simp at hs
def appZT(P:Program)(t tx sz bytes:Nat)(zero:List IV):Bool:=mkslT P t sz bytes zero&&(match P.underlying tx with|some (.int _)=>true|_=>false)
theorem wrap64{n:Int}(h1 : -9223372036854775808≤n)(h2:n≤9223372036854775807):IntKind.i64.wrap n=n:=by
 simp[IntKind.wrap,IntKind.signed,IntKind.bits];omega
theorem SrcA.zeros{t tx e:TypeId}{i:TypeInfo}{z:Value}{k:IntKind}{w:World}(hu:P.underlying t=some (.slice e))(hi:P.info? e=some i)(hz:i.zero=some z)(hk:P.underlying tx=some (.int k))(hzs:z.cells.size=i.size)
  (n:Nat) (h1:n*i.bytes≤17592186044416) (h2:n≤17592186044416) (hone:∀ u∈(Builtin.zeroCells z.cells n).toList,u.oneCell'=true):SrcA P t tx e i z (.int .i64 n) n (Builtin.zeroCells z.cells n).toList w:=by
 have hlen:(Builtin.zeroCells z.cells n).toList.length=n*i.size:=by simp[Builtin.zeroCells,hzs]
 have hw:IntKind.i64.wrap (n:Int)=n:=wrap64 (by omega) (by omega);have hb:¬ ((n:Int)*(i.bytes:Int) > 2 ^ 48):=by
  have:((n*i.bytes:Nat):Int)≤17592186044416:=by omega
  rw[Int.natCast_mul] at this;omega
 have h0:¬ ((n:Int)<0):=by omega
 have hz0:n*i.size=0→Builtin.zeroCells z.cells n=#[]:=fun h=>by
  apply Array.eq_empty_of_size_eq_zero;simp[Builtin.zeroCells,hzs,h]
 refine ⟨hlen,fun b off sLen sCap ty hr hb1 hc hf=>?_,fun base sLen sCap olds ty ho hr hb1 hb2=>?_,fun base ty hn hv=>?_⟩
 ·have hst:=run_storeCells_cells (P:=P) b (off+sLen*i.size) (Builtin.zeroCells z.cells n).toList 0 w (by simpa using hc) (by simpa using hf) hone
  simp only[Nat.add_zero] at hst;by_cases hn:n*i.size=0
  ·have e0:=hz0 hn
   rw[e0] at hst ⊢;simp only[show ((2:Int) ^ 48)=281474976710656 from rfl] at hb;simp[Builtin.append_,run_underlying hu,run_underlying hk,sizeOf,typeInfo,hi,asInt,asIntOf,hw,hb,h0,hr,hn,Addr.add_lit,hst]
  ·simp only[show ((2:Int) ^ 48)=281474976710656 from rfl] at hb
   simp[Builtin.append_,run_underlying hu,run_underlying hk,sizeOf,typeInfo,zeroValue,hi,hz,asInt,asIntOf,hw,hb,h0,hr,hn,Addr.add_lit,hst]
 ·have hr':¬ (sLen+n≤sCap):=by omega
  have h63':¬ (9223372036854775807<((sLen:Int)+(n:Int))):=by omega
  have h48':¬ (281474976710656<Builtin.nextslicecap (sLen+n) sCap*i.bytes):=by have:=fits hr hb1;omega
  simp only[show ((2:Int) ^ 48)=281474976710656 from rfl] at hb;by_cases hn:n*i.size=0
  ·have e0:=hz0 hn
   rw[e0];simp[Builtin.append_,run_underlying hu,run_underlying hk,sizeOf,typeInfo,zeroValue,hi,hz,asInt,asIntOf,hw,hb,h0,hr',h63',h48',hn,Question.forced,ho,newRow,grownCap]
  ·simp[Builtin.append_,run_underlying hu,run_underlying hk,sizeOf,typeInfo,zeroValue,hi,hz,asInt,asIntOf,hw,hb,h0,hr',h63',h48',hn,Question.forced,ho,newRow,grownCap]
   congr 2;apply Array.ext';simp[List.append_assoc]
 ·subst hn
  have hw0:IntKind.i64.wrap 0=0:=rfl;cases base<;>simp[Builtin.append_,run_underlying hu,run_underlying hk,sizeOf,typeInfo,hi,asInt,asIntOf,hw0,storeCells]
theorem op_appZ(hW:WR X E)(hT:TR X E s a)(hh:E.h=s.hp)(hc:E.ct=s.ct){t tx sz bytes:Nat}{zero:List IV}{x y:Operand}{x' y':Opd}
  (ho:o.op=.call {callee:=.builtin .append,args:=#[x,y],argTypes:=#[t,tx]}) (hx:okOpd x x'=true) (hy:okOpd y y'=true) (hb:appZT P t tx sz bytes zero=true)
  (hs:step G s d (.appZ sz bytes zero x' y')=some (v,h',c')):OpOk P X E o a.eval v h' c':=by
 unfold appZT at hb;rw[Bool.and_eq_true] at hb;obtain ⟨e,i,z,hu,hi,hsz,hby,hz,rz⟩:=mkslT_eq hb.1;obtain ⟨k,hk⟩:∃ k,P.underlying tx=some (.int k):=by
  have:=hb.2
  split at this
  ·exact ⟨_,by assumption⟩
  ·simp at this
 have rx:=ev_sound hT hx;have ry:=ev_sound hT hy;simp only[step] at hs;split at hs
 ·rename_i ca m e1 e2
  rw[e1] at rx;rw[e2] at ry;split at hs
  ·rename_i hcond
   obtain ⟨h0,hzl⟩:=hcond;obtain ⟨n,rfl⟩:=Int.eq_ofNat_of_zero_le h0;have ry:VR _ _ (.int .i64 (n:Int)) _:=ry;have ey:a.eval y=.int .i64 n:=by generalize a.eval y=q at ry;cases ry;rfl
   have hrz:=rz (okc X E) E.w.heap;have hlz:zero.length=z.cells.size:=by have:=hrz.length;simpa using this.symm
   have hzs:z.cells.size=i.size:=by omega
   have hz2:All2 (CC X E) (repC n zero) (Builtin.zeroCells z.cells n).toList:=by
    have:=rep_sound (X:=X) (E:=E) hrz n
    rw[hlz] at this;exact this
   have hone:∀ u∈(Builtin.zeroCells z.cells n).toList,u.oneCell'=true:=fun u hu'=>by
    obtain ⟨j,hj⟩:=List.getElem?_of_mem hu';have hlt:j<(repC n zero).length:=by
     rw[← hz2.length];exact (List.getElem?_eq_some_iff.1 hj).1
    obtain ⟨v,hv,hr⟩:=hz2.get j _ (List.getElem?_eq_getElem hlt);rw[hj] at hv
    have:=Option.some.inj hv
    subst this;exact CC.one hr
   subst hsz;subst hby;simp only[Int.toNat_natCast] at hs;have hfit:n*i.bytes≤17592186044416∧n≤17592186044416:=by
    unfold appTo at hs;split at hs
    ·split at hs
     ·rename_i hn;subst hn;exact ⟨by simp,by simp⟩
     ·split at hs
      ·assumption
      ·simp at hs
    ·split at hs
     ·rename_i hn;subst hn;exact ⟨by simp,by simp⟩
     ·split at hs
      ·assumption
      ·simp at hs
    ·split at hs
     ·split at hs
      ·rename_i hcc
       obtain ⟨_,_,g1,g2⟩:=hcc;rw[Nat.add_mul] at g1;exact ⟨by omega,by omega⟩
      ·simp at hs
     ·simp at hs
    ·simp at hs
   have hsrc:=SrcA.zeros (P:=P) (w:=E.w) hu hi hz hk hzs n hfit.1 hfit.2 hone;rw[← ey] at hsrc;exact appTo_sound hW hh hc ho hu hi hz hzs rx hsrc hz2 hs
  ·simp at hs
 ·simp at hs
def lenT(P:Program)(t ty:Nat):Bool :=
  match P.underlying t,ty with
  |some .string,0|some (.slice _),1|some (.map _ _),2=>true
  |_,_=>false
theorem op_len(hW:WR X E)(hT:TR X E s a)(hh:E.h=s.hp)(hc:E.ct=s.ct){t ty:Nat}{x:Operand}{x':Opd}(ho:o.op=.call {callee:=.builtin .len,args:=#[x],argTypes:=#[t]})
  (hx:okOpd x x'=true) (ht:lenT P t ty=true) (hs:step G s d (.len ty x')=some (v,h',c')):OpOk P X E o a.eval v h' c':=by
 have rx:=ev_sound hT hx;have run:∀ z w',(Builtin.len_ #[t] o.type #[a.eval x]).run P E.w=.ok z w'→(execOp a.eval o).run P E.w=.ok (.value z) w':=fun z w' h=>by
  simp[execOp,ho,resolve,invoke,builtin,h]
 have fin:∀ n:Nat,okv s (some (.int .i64 n))=some (v,h',c')→(Builtin.len_ #[t] o.type #[a.eval x]).run P E.w=.ok (.int .i64 n) E.w→OpOk P X E o a.eval v h' c':=fun n h1 h2=>by
  obtain ⟨r,h3,rfl,rfl,rfl⟩:=okv_eq h1;simp at h3;subst h3;rw[← hh,← hc];exact OpOk.pure hW (run _ _ h2) (VR.int _ _)
 simp only[step] at hs;split at hs
 ·rename_i l e1
  rw[e1] at rx;have hu:P.underlying t=some .string:=by unfold lenT at ht;split at ht<;>simp_all
  have rx2:VR _ _ _ _:=rx;generalize hq:a.eval x=q at rx2;cases rx2 with
  |str _ z hz=>subst hz;exact fin _ hs (by rw[hq,Array.length_toList];simp[Builtin.len_,run_underlying hu,goInt])
 ·rename_i e1
  rw[e1] at rx;obtain ⟨e,hu⟩:∃ e,P.underlying t=some (.slice e):=by unfold lenT at ht;split at ht<;>simp_all
  have rx2:VR _ _ _ _:=rx;generalize hq:a.eval x=q at rx2;cases rx2
  exact fin 0 hs (by rw[hq];simp[Builtin.len_,run_underlying hu,goInt])
 ·rename_i e1
  rw[e1] at rx;obtain ⟨e,hu⟩:∃ e,P.underlying t=some (.slice e):=by unfold lenT at ht;split at ht<;>simp_all
  have rx2:VR _ _ _ _:=rx;generalize hq:a.eval x=q at rx2;cases rx2
  exact fin 0 hs (by rw[hq];simp[Builtin.len_,run_underlying hu,goInt])
 ·rename_i tt cs n e1
  rw[e1] at rx;obtain ⟨e,hu⟩:∃ e,P.underlying t=some (.slice e):=by unfold lenT at ht;split at ht<;>simp_all
  have rx2:VR _ _ _ _:=rx;generalize hq:a.eval x=q at rx2;cases rx2<;>exact fin n hs (by rw[hq];simp[Builtin.len_,run_underlying hu,goInt])
 ·rename_i b g off sz n e1
  split at hs
  ·rename_i hcur
   rw[e1] at rx;obtain ⟨e,hu⟩:∃ e,P.underlying t=some (.slice e):=by unfold lenT at ht;split at ht<;>simp_all
   obtain ⟨q1,q2,q3⟩:=rx;obtain ⟨q4,q5⟩:=q3 (by rw[hh];exact hcur);rcases q5 with ⟨cap,q5,_⟩|⟨rfl,ad,q5⟩<;>exact fin _ hs (by rw[q5];simp[Builtin.len_,run_underlying hu,goInt])
  ·simp at hs
 ·rename_i e1
  rw[e1] at rx;obtain ⟨e,e',hu⟩:∃ e e',P.underlying t=some (.map e e'):=by unfold lenT at ht;split at ht<;>simp_all
  have rx2:VR _ _ _ _:=rx;generalize hq:a.eval x=q at rx2;cases rx2
  exact fin 0 hs (by rw[hq];simp[Builtin.len_,run_underlying hu,goInt])
 ·rename_i b g e1
  split at hs
  ·rename_i es k hm
   rw[e1] at rx;obtain ⟨e,e',hu⟩:∃ e e',P.underlying t=some (.map e e'):=by unfold lenT at ht;split at ht<;>simp_all
   rw[← hh] at hm;obtain ⟨hget,hcur⟩:=Heap.mapAt_eq hm;obtain ⟨q1,q2,q3⟩:=rx;have q3:=q3 hcur;obtain ⟨⟨ces,r1,r2⟩,_,_⟩:=hW.blk b _ hget;have hl:=r2.length;simp at hl;exact fin _ hs (by rw[q3];simp[Builtin.len_,run_underlying hu,goInt,MapKept.run_getObj_map r1,hl])
  ·simp at hs
 ·simp at hs
theorem op_ext(hW:WR X E)(hT:TR X E s a)(hh:E.h=s.hp)(hc:E.ct=s.ct){n:Nat}{x:Operand}{x':Opd}(ho:o.op=.extract x n)
  (hx:okOpd x x'=true) (hs:step G s d (.ext x' n)=some (v,h',c')):OpOk P X E o a.eval v h' c':=by
 have rx:=ev_sound hT hx;simp only[step] at hs;split at hs
 ·rename_i l e1
  obtain ⟨r,h1,rfl,rfl,rfl⟩:=ok1_eq hs;rw[e1] at rx;obtain ⟨vs,hq,hr⟩:=rx;obtain ⟨w,hw,hrw⟩:=hr.get n r h1;rw[← hh,← hc];exact OpOk.pure hW (x:=w) (by simp[execOp,ho,hq,Instr.extract,hw]) hrw
 ·simp at hs
theorem capOf_sound{x:AC}{r:AR}{w:Value}(h:CC X E x w)(e:capOf x=some r):RR X E r w:=by
 cases x with
 |r y=>simp[capOf] at e;subst e;exact h
 |clo f caps =>
  simp only[capOf] at e;cases ht:traverse inlR caps with
  |none=>rw[ht] at e;simp at e
  |some vs =>
   rw[ht] at e;simp at e;subst e;obtain ⟨ws,rfl,hr⟩:=h;have h2:All2 (VR (okc X E) E.w.heap) vs ws:=hr.of_traverse (fun a b c r e=>by cases a<;>simp[inlR] at e;subst e;exact r) ht;exact VR.clo f vs ws h2.length fun i x v hx hv=>by
    obtain ⟨b,hb,hr⟩:=h2.get i x hx;rw[hv] at hb;simp at hb;subst hb;exact hr
theorem mkClo_sound{f:Nat}{caps:List AR}{ws:List Value}(h:All2 (RR X E) caps ws):CC X E (mkClo f caps) (.func (.func f) #[] ws.toArray):=by
 unfold mkClo;split
 ·rename_i vs ht
  have h2:All2 (VR (okc X E) E.w.heap) vs ws:=h.of_traverse (fun a b c r e=>by cases a<;>simp[inlR] at e;subst e;exact r) ht;exact VR.clo f vs ws h2.length fun i x v hx hv=>by
   obtain ⟨b,hb,hr⟩:=h2.get i x hx;rw[hv] at hb;simp at hb;subst hb;exact hr
 ·exact ⟨ws,rfl,h⟩
def okOpds:List Operand→List Opd→Bool
  |[],[]=>true
  |x::l,y::m=>okOpd x y&&okOpds l m
  |_,_=>false
theorem caps_sound(hT:TR X E s a):∀ {l:List Operand} {m:List Opd} {cs:List AR},okOpds l m=true →
  traverse (fun o=>match ev s o with|.v (.c x)=>capOf x|_=>none) m=some cs→All2 (RR X E) cs (l.map a.eval)
 |[],[],cs,_,e=>by simp[traverse] at e;subst e;exact .nil
 |x::l,y::m,cs,h,e=>by
  simp[okOpds] at h
  simp only[traverse] at e
  split at e
  ·simp at e
  ·rename_i b hb
   split at e
   ·simp at e
   ·rename_i bs hbs
    simp at e
    subst e
    refine .cons ?_ (caps_sound hT h.2 hbs)
    have r:=ev_sound hT h.1
    split at hb
    ·rename_i z hz
     rw[hz] at r
     exact capOf_sound (x:=z) r hb
    ·simp at hb
 |[],_::_,_,h,_=>by simp[okOpds] at h
 |_::_,[],_,h,_=>by simp[okOpds] at h
theorem op_mkfn(hW:WR X E)(hT:TR X E s a)(hh:E.h=s.hp)(hc:E.ct=s.ct){f:Nat}{caps:Array Operand}{caps':List Opd}(ho:o.op=.makeFunc (.func f) #[] caps)
  (hx:okOpds caps.toList caps'=true) (hs:step G s d (.mkfn f caps')=some (v,h',c')):OpOk P X E o a.eval v h' c':=by
 simp only[step] at hs;split at hs
 ·rename_i cs hcs
  simp at hs;obtain ⟨rfl,rfl,rfl⟩:=hs;have r:=mkClo_sound (f:=f) (caps_sound hT hx hcs);rw[← hh,← hc];refine OpOk.pure hW (x:=.func (.func f) #[] (caps.toList.map a.eval).toArray) ?_ r;have e:caps.map a.eval=(caps.toList.map a.eval).toArray:=by apply Array.ext';simp
  simp[execOp,ho,Instr.makeFunc,e]
 ·simp at hs
theorem foldV_max:∀ (l:List AV) (m:List Value) (x z:AV) (y:Value),All2 (AVR X E) l m→AVR X E x y→foldV maxI x l=some z→∃ q,(m.foldlM Builtin.max2 y).run P E.w=.ok q E.w∧AVR X E z q
 |[],_,x,z,y,h,hx,e=>by cases h;simp[foldV] at e;subst e;exact ⟨y,by simp,hx⟩
 |u::l,_,x,z,y,h,hx,e=>by
  cases h with
  |@cons _ q _ m h1 h2 =>
   simp only[foldV] at e
   split at e
   ·rename_i t ht
    unfold maxI at ht
    split at ht
    ·rename_i k p k' r
     split at ht
     ·rename_i hk
      subst hk
      simp at ht
      have hx:VR _ _ _ _:=hx
      have h1:VR _ _ _ _:=h1
      cases hx;cases h1
      obtain ⟨q,q1,q2⟩:=foldV_max l m t z (.int k (if r > p then r else p)) h2 (by subst ht;exact VR.int _ _) e
      exact ⟨q,by simp[List.foldlM_cons,Builtin.max2];simpa using q1,q2⟩
     ·simp at ht
    ·simp at ht
   ·simp at e
theorem foldV_min:∀ (l:List AV) (m:List Value) (x z:AV) (y:Value),All2 (AVR X E) l m→AVR X E x y→foldV minI x l=some z→∃ q,(m.foldlM Builtin.min2 y).run P E.w=.ok q E.w∧AVR X E z q
 |[],_,x,z,y,h,hx,e=>by cases h;simp[foldV] at e;subst e;exact ⟨y,by simp,hx⟩
 |u::l,_,x,z,y,h,hx,e=>by
  cases h with
  |@cons _ q _ m h1 h2 =>
   simp only[foldV] at e
   split at e
   ·rename_i t ht
    unfold minI at ht
    split at ht
    ·rename_i k p k' r
     split at ht
     ·rename_i hk
      subst hk
      simp at ht
      have hx:VR _ _ _ _:=hx
      have h1:VR _ _ _ _:=h1
      cases hx;cases h1
      obtain ⟨q,q1,q2⟩:=foldV_min l m t z (.int k (if r<p then r else p)) h2 (by subst ht;exact VR.int _ _) e
      exact ⟨q,by simp[List.foldlM_cons,Builtin.min2];simpa using q1,q2⟩
     ·simp at ht
    ·simp at ht
   ·simp at e
theorem evs_sound(hT:TR X E s a):∀ {l:List Operand} {m:List Opd},okOpds l m=true→All2 (AVR X E) (m.map (ev s)) (l.map a.eval)
 |[],[],_=>.nil
 |x::l,y::m,h=>by
  simp[okOpds] at h
  exact .cons (ev_sound hT h.1) (evs_sound hT h.2)
 |[],_::_,h=>by simp[okOpds] at h
 |_::_,[],h=>by simp[okOpds] at h
theorem op_mx(hW:WR X E)(hT:TR X E s a)(hh:E.h=s.hp)(hc:E.ct=s.ct){args:Array Operand}{l:List Opd}{ts:Array TypeId}(ho:o.op=.call {callee:=.builtin .max,args:=args,argTypes:=ts})
  (hx:okOpds args.toList l=true) (hs:step G s d (.mx l)=some (v,h',c')):OpOk P X E o a.eval v h' c':=by
 have r:=evs_sound hT hx;simp only[step] at hs;split at hs
 ·rename_i x rest e1
  rw[e1] at r;generalize hq:args.toList.map a.eval=qs at r;cases r with
  |@cons _ y _ m h1 h2 =>
   cases hf:foldV maxI x rest with
   |none=>simp[hf] at hs
   |some z =>
    simp[hf] at hs;obtain ⟨rfl,rfl,rfl⟩:=hs;obtain ⟨q,q1,q2⟩:=foldV_max (P:=P) rest m x z y h2 h1 hf;rw[← hh,← hc];refine OpOk.pure hW (x:=q) ?_ q2;have hq2:(args.map a.eval).toList=y::m:=by rw[← hq];simp
    simp only[execOp,ho,resolve,invoke,builtin,Sem.run_bind,Sem.run_pure,Result.andThen_ok,Builtin.max_,hq2,q1]
 ·simp at hs
theorem op_mn(hW:WR X E)(hT:TR X E s a)(hh:E.h=s.hp)(hc:E.ct=s.ct){args:Array Operand}{l:List Opd}{ts:Array TypeId}(ho:o.op=.call {callee:=.builtin .min,args:=args,argTypes:=ts})
  (hx:okOpds args.toList l=true) (hs:step G s d (.mn l)=some (v,h',c')):OpOk P X E o a.eval v h' c':=by
 have r:=evs_sound hT hx;simp only[step] at hs;split at hs
 ·rename_i x rest e1
  rw[e1] at r;generalize hq:args.toList.map a.eval=qs at r;cases r with
  |@cons _ y _ m h1 h2 =>
   cases hf:foldV minI x rest with
   |none=>simp[hf] at hs
   |some z =>
    simp[hf] at hs;obtain ⟨rfl,rfl,rfl⟩:=hs;obtain ⟨q,q1,q2⟩:=foldV_min (P:=P) rest m x z y h2 h1 hf;rw[← hh,← hc];refine OpOk.pure hW (x:=q) ?_ q2;have hq2:(args.map a.eval).toList=y::m:=by rw[← hq];simp
    simp only[execOp,ho,resolve,invoke,builtin,Sem.run_bind,Sem.run_pure,Result.andThen_ok,Builtin.min_,hq2,q1]
 ·simp at hs
end
section
variable {P:Program} {X:Cx} {E:Env} {s:St} {a:Act} {o:Oper} {G:Nat→List IV} {d:Nat} {v:AV} {h':Heap} {c':Nat}
theorem slice_view(hW:WR X E){sz:Nat}{b:AC}{y:Value}{new:List AC}{n:Nat}(r:CC X E b y)(hs:isStrC b=false)(e:slCells E.h sz b=some (new,n)) :
  (y=.slice none 0 0∧new=[]∧n=0)∨∃ ad cap vs,y=.slice (some ad) n cap∧vs.length=n*sz∧All2 (CC X E) new vs∧∀ (j:Nat) (v:Value),vs[j]?=some v→E.w.cell? (ad.add j)=some v:=by
 unfold slCells at e;split at e
 ·simp at e;obtain ⟨rfl,rfl⟩:=e
  cases r
  exact .inl ⟨rfl,rfl,rfl⟩
 ·simp at e;obtain ⟨rfl,rfl⟩:=e
  cases r with
  |emp ad=>exact .inr ⟨ad,0,[],rfl,by simp,.nil,by simp⟩
 ·rename_i tt cs m
  split at e
  ·rename_i hlen
   simp at e;obtain ⟨rfl,rfl⟩:=e;obtain ⟨ad,cap,vs,rfl,h1,h2,h3⟩:=lit_view (w:=E.w) r;have h4:=h2.map (S:=CC X E) I fun _ _ r=>r;exact .inr ⟨ad,cap,vs,rfl,by rw[h2.length,hlen],h4,h3⟩
  ·simp at e
 ·rename_i bb g off sz' m
  split at e
  ·rename_i hsz
   subst hsz;split at e
   ·rename_i cs hrow
    split at e
    ·rename_i hlen
     simp at e;obtain ⟨rfl,rfl⟩:=e;obtain ⟨ad,cap,vs,rfl,h1,h2,h3,h4⟩:=sl_view hW r hrow hlen;exact .inr ⟨ad,cap,vs,rfl,h2,h3,h4⟩
    ·simp at e
   ·simp at e
  ·simp at e
 ·simp[isStrC] at hs
 ·simp at e
def isBytesT(P:Program)(t:Nat):Bool :=
  match P.underlying t with
  |some (.slice e)=>match P.underlying e with
    |some (.int .u8)=>true
    |_=>false
  |_=>false
theorem isBytesT_eq{t:Nat}(h:isBytesT P t=true):∃ e,P.underlying t=some (.slice e)∧P.underlying e=some (.int .u8):=by
 unfold isBytesT at h;split at h
 ·rename_i e he
  split at h
  ·rename_i h2;exact ⟨e,he,h2⟩
  ·simp at h
 ·simp at h
theorem bytes_sound:∀ {cs:List AC} {vs:List Value} {bs:List UInt8},All2 (CC X E) cs vs→traverse byteOf cs=some bs→∃ ns:List Int,vs=ns.map (Value.int .u8)∧bs=ns.map fun n=>UInt8.ofNat n.toNat
 |_,_,bs,.nil,e=>by simp[traverse] at e;subst e;exact ⟨[],rfl,rfl⟩
 |_,_,bs,.cons r h,e=>by
  simp only[traverse] at e
  split at e
  ·simp at e
  ·rename_i b hb
   split at e
   ·simp at e
   ·rename_i bs' hbs
    simp at e
    subst e
    obtain ⟨ns,rfl,rfl⟩:=bytes_sound h hbs
    unfold byteOf at hb
    split at hb
    ·simp at hb
     subst hb
     rename_i n
     cases r
     exact ⟨n::ns,rfl,rfl⟩
    ·simp at hb
theorem op_cvBS(hW:WR X E)(hT:TR X E s a)(hh:E.h=s.hp)(hc:E.ct=s.ct){t u:Nat}{x:Operand}{x':Opd}(ho:o.op=.convert t u x)
  (hx:okOpd x x'=true) (ht:isBytesT P t=true) (hu:isStrT P u=true) (hs:step G s d (.cvBS x')=some (v,h',c')):OpOk P X E o a.eval v h' c':=by
 have rx:=ev_sound hT hx;have hu:=isStrT_eq hu;obtain ⟨e,ht,he⟩:=isBytesT_eq ht;simp only[step] at hs;split at hs
 ·rename_i b e1
  rw[e1] at rx;split at hs
  ·rename_i cs n e2
   obtain ⟨r,h1,rfl,rfl,rfl⟩:=okv_eq hs;simp at h1;obtain ⟨bs,hbs,rfl⟩:=h1;split at e2
   ·simp at e2
   ·rename_i hns
    rw[← hh,← hc];rw[← hh] at e2;rcases slice_view hW rx (by simpa using hns) e2 with ⟨hy,rfl,rfl⟩|⟨ad,cap,vs,hy,hlen,hr,hcell⟩
    ·simp[traverse] at hbs
     subst hbs;refine OpOk.pure hW (x:=.string ByteArray.empty) ?_ (VR.str _ _ rfl);have key:=run_convert_bytes_nil (P:=P) E.w t e ht he 0 0 u hu;simp[execOp,ho,hy,key]
    ·obtain ⟨ns,rfl,rfl⟩:=bytes_sound hr hbs
     have hl:(loadCells ad n).run P E.w=.ok (ns.map (Value.int .u8)).toArray E.w:=by
      have:=run_loadCells_list (P:=P) E.w ad (ns.map (Value.int .u8)) hcell
      rw[hlen] at this;simpa using this
     refine OpOk.pure hW (x:=.string ⟨(ns.map fun n=>UInt8.ofNat n.toNat).toArray⟩) ?_ (VR.str _ _ (by simp));have key:(convert t u (.slice (some ad) n cap)).run P E.w=.ok (.string ⟨(ns.map fun n=>UInt8.ofNat n.toNat).toArray⟩) E.w:=by
      rw[run_convert_bytes_string E.w t u e _ n cap ht he hu,run_bytesToString E.w _ n cap ns hl,foldl_push_bytes];simp[ByteArray.empty,ByteArray.emptyWithCapacity];rfl
     simp[execOp,ho,hy,key]
  ·simp at hs
 ·simp at hs
theorem bytesWorld_heap(w:World)(e:TypeId)(z:ByteArray):(Lib.bytesWorld w e z).heap=w.heap.push (.cells (Lib.bytesCells w e z) e ((Lib.bytesCells w e z).size,(Lib.bytesCells w e z).size+1)):=by
 apply Array.ext
 ·simp[Lib.bytesWorld_size]
 ·intro i h1 h2
  rw[Lib.bytesWorld_size] at h1;have e1:(Lib.bytesWorld w e z).heap[i]?=(w.heap.push (.cells (Lib.bytesCells w e z) e ((Lib.bytesCells w e z).size,(Lib.bytesCells w e z).size+1)))[i]?:=by
   rw[Array.getElem?_push];by_cases hi:i=w.heap.size
   ·subst hi
    rw[if_pos rfl];exact Lib.bytesWorld_at_new w e z
   ·rw[if_neg hi];exact Lib.bytesWorld_at_old w e z i (by omega)
  rw[Array.getElem?_eq_getElem (by rw[Lib.bytesWorld_size];exact h1),Array.getElem?_eq_getElem h2] at e1;exact Option.some.inj e1
theorem op_cvSB(hW:WR X E)(hT:TR X E s a)(hh:E.h=s.hp)(hc:E.ct=s.ct){t u:Nat}{x:Operand}{x':Opd}(ho:o.op=.convert t u x)
  (hx:okOpd x x'=true) (ht:isStrT P t=true) (hu:isBytesT P u=true) (hs:step G s d (.cvSB x')=some (v,h',c')):OpOk P X E o a.eval v h' c':=by
 have rx:=ev_sound hT hx;have ht:=isStrT_eq ht;obtain ⟨e,hu,he⟩:=isBytesT_eq hu;simp only[step] at hs;split at hs
 ·rename_i l e1
  obtain ⟨z,hy,hzl⟩:=str_sound rx e1;split at hs
  ·simp at hs
   obtain ⟨rfl,rfl,rfl⟩:=hs;have hlen:z.size=l.length:=by
    rw[← hzl];show z.data.size=z.data.toList.length;exact Array.length_toList.symm
   have hge:=grownCap_ge E.w z.size 0 e;have hrun:(execOp a.eval o).run P E.w=.ok (.value (.slice (some ⟨E.w.heap.size,0,none⟩) l.length (grownCap E.w z.size 0 e))) (Lib.bytesWorld E.w e z):=by
    rw[← hlen];simp[execOp,ho,hy,Lib.run_convert_string_bytes (P:=P) E.w t u e z ht hu he]
   have hcells:Lib.bytesCells E.w e z=(l.map (fun c=>Value.int .u8 c.toNat)++List.replicate (grownCap E.w z.size 0 e-z.size) (Value.int .u8 0)).toArray:=by
    unfold Lib.bytesCells;apply Array.ext';rw[← hzl];simp
   have r:∀ l:List UInt8,All2 (CC X E) (l.map fun c=>I (.int .u8 c.toNat)) (l.map (fun c=>Value.int .u8 c.toNat)):=by
    intro l;induction l with
    |nil=>exact .nil
    |cons c l ih=>exact .cons (VR.int _ _) ih
   obtain ⟨hP,hB⟩:=put_new hW d e ((Lib.bytesCells E.w e z).size,(Lib.bytesCells E.w e z).size+1) (List.replicate (grownCap E.w z.size 0 e-z.size) (Value.int .u8 0)) (r l) (Lib.bytesWorld E.w e z)
    (by rw[bytesWorld_heap,hcells]) (.inl (by rw[hcells];simp)) rfl rfl rfl
   rw[← hh,← hc];refine OpOk.put hW hP (x:=.slice (some ⟨E.w.heap.size,0,none⟩) l.length (grownCap E.w z.size 0 e)) hrun hB ⟨rfl,Nat.lt_succ_self _,fun _=>?_⟩;simp only[Env.new,if_true,Nat.sub_zero];refine ⟨Nat.le_refl _,.inl ⟨grownCap E.w z.size 0 e,rfl,by omega,Lib.bytesCells E.w e z,e,_,Lib.bytesWorld_at_new E.w e z,?_⟩⟩;rw[hcells];simp;omega
  ·simp at hs
 ·simp at hs
theorem op_clr(hW:WR X E)(hT:TR X E s a)(hh:E.h=s.hp)(hc:E.ct=s.ct){t sz:Nat}{zero:List IV}{x:Operand}{x':Opd}(ho:o.op=.call {callee:=.builtin .clear,args:=⟨[x]⟩,argTypes:=⟨[t]⟩})
  (hx:okOpd x x'=true) (hb:bslT P t sz zero=true) (hs:step G s d (.clr sz zero x')=some (v,h',c')):OpOk P X E o a.eval v h' c':=by
 have rx:=ev_sound hT hx;obtain ⟨e,i,z,hu,hi,hsz,hz,rz⟩:=bslT_eq hb;simp only[step] at hs;split at hs
 ·rename_i b g off sz' len e1
  rw[e1] at rx;obtain ⟨_,_,h3⟩:=rx;split at hs
  ·rename_i hl
   subst hl;split at hs
   ·rename_i hcur
    simp at hs;obtain ⟨rfl,rfl,rfl⟩:=hs;rw[← hh] at hcur;obtain ⟨_,h5⟩:=h3 hcur;obtain ⟨ad,cap,hq⟩:∃ ad cap,a.eval x=.slice (some ad) 0 cap:=by
     rcases h5 with ⟨cap,h5,_⟩|⟨_,ad,h5⟩
     ·exact ⟨_,_,h5⟩
     ·exact ⟨_,_,h5⟩
    rw[← hh,← hc];refine OpOk.pure hW (x:=.tuple #[]) ?_ trivial;simp[execOp,ho,resolve,invoke,builtin,Builtin.clear_,hq,run_underlying hu]
   ·simp at hs
  ·rename_i hl
   split at hs
   ·rename_i cs e3
    split at hs
    ·rename_i hcond
     obtain ⟨rfl,hzl,hfit⟩:=hcond;simp at hs;obtain ⟨rfl,rfl,rfl⟩:=hs;rw[← hh] at e3;obtain ⟨hget,hcur⟩:=Heap.row_eq e3;obtain ⟨h4,h5⟩:=h3 hcur;obtain ⟨cap,hq⟩:∃ cap,a.eval x=.slice (some ⟨(E.m b).1,off-(E.m b).2,none⟩) len cap:=by
      rcases h5 with ⟨cap,h5,_⟩|⟨h5,_⟩
      ·exact ⟨_,h5⟩
      ·exact absurd h5 hl
     have hz2:=rep_sound (X:=X) (E:=E) (rz (okc X E) E.w.heap) len;have hzs:z.cells.size=zero.length:=by
      have:=(rz (okc X E) E.w.heap).length
      simp only[Array.length_toList] at this;exact this
     have hzc:(Builtin.zeroCells z.cells len).toList=((Array.range (len*zero.length)).map (z.cells[· % z.cells.size]!)).toList:=by simp[Builtin.zeroCells,hzs]
     rw[← hzc] at hz2;obtain ⟨E',f1,f2,f3,f4⟩:=put_write hW e3 (by rw[rep_length,hzl];exact hfit) h4 hz2;obtain ⟨⟨cc,ee,fr,r1,r2,r3,r4⟩,hgen,_⟩:=hW.blk b _ hget;have hnl:(Builtin.zeroCells z.cells len).toList.length=len*sz':=by have:=hz2.length;rw[rep_length,hzl] at this;exact this
     have hsize:∀ j,j<len*sz'→off-(E.m b).2+j<cc.size:=fun j hj=>by
      obtain ⟨v0,hv0,_⟩:=r4 (off+j) (cs[off+j]'(by omega)) (by omega) (by simp)
      have:=(Array.getElem?_eq_some_iff.1 hv0).1
      omega
     have hst:=run_storeCells_cells (P:=P) (E.m b).1 (off-(E.m b).2) (Builtin.zeroCells z.cells len).toList 0 E.w
      (fun j hj=>by
       rw[hnl] at hj;rw[Nat.add_zero,cell_of_heap r1,Array.getElem?_eq_getElem (hsize j hj)];rfl)
      (fun j hj=>by
       rw[hnl] at hj;exact frozen_no r1 r2 (by have:=hsize j hj;omega))
      (fun v hv=>All2.one hz2 v hv)
     simp only[Nat.add_zero] at hst;rw[← hc,← f2,← hh];refine OpOk.put hW f3 (x:=.tuple #[]) ?_ f4 trivial;have hzz:(zeroValue e).run P E.w=.ok z E.w:=by simp[zeroValue,typeInfo,hi,hz]
     obtain ⟨m,rfl⟩:=Nat.exists_eq_succ_of_ne_zero hl;simp[execOp,ho,resolve,invoke,builtin,Builtin.clear_,hq,run_underlying hu,hzz,hst,f1]
    ·simp at hs
   ·simp at hs
 ·simp at hs
end
theorem VR.retag{p p':Nat→Nat→Prop}{h:Array Obj}(hp:∀ t c,c<h.size→p t c→p' 1 c){x:IV}{v:Value}(r:VR p h x v):VR p' h (x.retag 1) v:=by
 have hlen:∀ l:List IV,(IV.retags 1 l).length=l.length:=by
  intro l;induction l with
  |nil=>rfl
  |cons _ _ ih=>simp[IV.retags,ih]
 have hget:∀ (l:List IV) (i:Nat) (y:IV),(IV.retags 1 l)[i]?=some y→∃ z,l[i]?=some z∧y=z.retag 1:=by
  intro l;induction l with
  |nil=>intro i y h;simp[IV.retags] at h
  |cons a l ih =>
   intro i y h;cases i with
   |zero=>simp[IV.retags] at h;exact ⟨a,rfl,h.symm⟩
   |succ i=>simpa using ih i y (by simpa[IV.retags] using h)
 induction r with
 |bool b=>exact .bool b
 |int k n=>exact .int k n
 |str l s e=>exact .str l s e
 |nilS=>exact .nilS
 |emp a=>exact .emp a
 |lit t cells len c o cap cs e fr vs h1 h2 h3 h4 _ h6 ih =>
  have hc:=(Array.getElem?_eq_some_iff.1 h2).1;refine .lit 1 (IV.retags 1 cells) len c o cap cs e fr vs (hp t c hc h1) h2 (by rw[hlen];exact h3) h4 (fun i x v hx hv=>?_) h6;obtain ⟨z,hz,rfl⟩:=hget cells i x hx;exact ih i z v hz hv
 |lit0 t len cap a h=>exact .lit0 1 len cap a h
 |lp t cells c o cs e fr vs h1 h2 h3 h4 _ ih =>
  have hc:=(Array.getElem?_eq_some_iff.1 h2).1;refine .lp 1 (IV.retags 1 cells) c o cs e fr vs (hp t c hc h1) h2 (by rw[hlen];exact h3) h4 (fun i x v hx hv=>?_);obtain ⟨z,hz,rfl⟩:=hget cells i x hx;exact ih i z v hz hv
 |lp0 t a=>exact .lp0 1 a
 |nilP=>exact .nilP
 |gp g off=>exact .gp g off
 |nilM=>exact .nilM
 |nilF=>exact .nilF
 |clo f caps vs h1 _ ih =>
  refine .clo f (IV.retags 1 caps) vs (by rw[hlen];exact h1) (fun i x v hx hv=>?_);obtain ⟨z,hz,rfl⟩:=hget caps i x hx;exact ih i z v hz hv
 |nilI=>exact .nilI
theorem freshs_get:∀ {l:List IV} (_:IV.freshs l=true) (i:Nat) (x:IV),l[i]?=some x→x.fresh=true
 |[],_,i,x,h=>by simp at h
 |a::l,e,i,x,h=>by
  simp[IV.freshs] at e
  cases i with
  |zero=>simp at h;subst h;exact e.1
  |succ i=>exact freshs_get e.2 i x (by simpa using h)
theorem VR.fresh{p p':Nat→Nat→Prop}{h:Array Obj}(hp:∀ c,c<h.size→p 0 c→p' 0 c){x:IV}{v:Value}(r:VR p h x v)(e:x.fresh=true):VR p' h x v:=by
 induction r with
 |bool b=>exact .bool b
 |int k n=>exact .int k n
 |str l s e1=>exact .str l s e1
 |nilS=>exact .nilS
 |emp a=>exact .emp a
 |lit t cells len c o cap cs ee fr vs h1 h2 h3 h4 _ h6 ih =>
  simp[IV.fresh] at e;obtain ⟨rfl,e⟩:=e;have hc:=(Array.getElem?_eq_some_iff.1 h2).1;exact .lit 0 cells len c o cap cs ee fr vs (hp c hc h1) h2 h3 h4 (fun i x v hx hv=>ih i x v hx hv (freshs_get e i x hx)) h6
 |lit0 t len cap a h=>exact .lit0 t len cap a h
 |lp t cells c o cs ee fr vs h1 h2 h3 h4 _ ih =>
  simp[IV.fresh] at e;obtain ⟨rfl,e⟩:=e;have hc:=(Array.getElem?_eq_some_iff.1 h2).1;exact .lp 0 cells c o cs ee fr vs (hp c hc h1) h2 h3 h4 (fun i x v hx hv=>ih i x v hx hv (freshs_get e i x hx))
 |lp0 t a=>exact .lp0 t a
 |nilP=>exact .nilP
 |gp g off=>exact .gp g off
 |nilM=>exact .nilM
 |nilF=>exact .nilF
 |clo f caps vs h1 _ ih =>
  simp[IV.fresh] at e;exact .clo f caps vs h1 (fun i x v hx hv=>ih i x v hx hv (freshs_get e i x hx))
 |nilI=>exact .nilI
def calleeX(X:Cx)(E:Env)(ids:List Nat)(lent:Bool):Cx where
  w0:=E.w
  A0:=fun k c=>∃ i b,k=PB+i∧ids[i]?=some b∧(E.h.get b).isSome=true∧(E.m b).1=c
  F1:=fun c=>c<E.w.heap.size∧(¬ ∃ b,b∈ids∧(E.h.get b).isSome=true∧(E.m b).1=c)∧(lent=true∨okc X E 1 c)
def calleeE(E:Env)(ids:List Nat)(bs:List Blk):Env where
  h:=bs.zipIdx.map fun (b,i)=>(PB+i,b)
  m:=fun k=>E.m (ids.getD (k-PB) 0)
  ct:=1
  w:=E.w
theorem zip_get(bs:List Blk):∀ (k n:Nat),Heap.get ((bs.zipIdx n).map fun (b,i)=>(PB+i,b)) k=if PB+n≤k then bs[k-(PB+n)]? else none:=by
 induction bs with
 |nil=>intro k n;simp[Heap.get]
 |cons b bs ih =>
  intro k n;simp only[List.zipIdx_cons,List.map_cons,Heap.get];by_cases h:PB+n=k
  ·subst h;simp
  ·rw[if_neg h,ih]
   by_cases h2:PB+n≤k
   ·rw[if_pos h2,if_pos (by omega)]
    have:k-(PB+n)=(k-(PB+(n+1)))+1:=by omega
    rw[this];simp
   ·rw[if_neg h2,if_neg (by omega)]
theorem idxOf_some{ids:List Nat}{b i:Nat}(h:idxOf ids b=some i):ids[i]?=some b:=by
 induction ids generalizing i with
 |nil=>simp[idxOf] at h
 |cons k l ih =>
  simp only[idxOf] at h;split at h
  ·rename_i e;simp at h;subst h;simp[e]
  ·cases hq:idxOf l b with
   |none=>simp[hq] at h
   |some j=>simp[hq] at h;subst h;simpa using ih hq
theorem idxOf_none{ids:List Nat}{b:Nat}(h:idxOf ids b=none):b∉ids:=by
 induction ids with
 |nil=>simp
 |cons k l ih =>
  simp only[idxOf] at h;split at h
  ·simp at h
  ·rename_i e
   cases hq:idxOf l b with
   |none=>simp;exact ⟨fun q=>e q.symm,ih hq⟩
   |some j=>simp[hq] at h
theorem toB_gen{h:Heap}{ids:List Nat}{x y:Blk}(e:toB h ids x=some y):y.gen=0:=by
 cases x with
 |cells g cs=>simp only[toB] at e;cases hq:traverse (toC false h ids) cs<;>simp[hq] at e;subst e;rfl
 |map g es k=>simp only[toB] at e;cases hq:traverse (toEnt h ids) es<;>simp[hq] at e;subst e;rfl
 |iter g l p=>simp[toB] at e;subst e;rfl
section
variable {P:Program} {X:Cx} {E:Env} {ids:List Nat} {bs:List Blk} {lent:Bool}
theorem notA(hW:WR X E){t c:Nat}(h:okc X E t c):¬ ∃ b,b∈ids∧(E.h.get b).isSome=true∧(E.m b).1=c:=by
 rintro ⟨b,_,h1,h2⟩;rcases h with ⟨_,h3⟩|⟨_,h3⟩
 ·exact h3 (.inl ⟨b,h1,h2⟩)
 ·obtain ⟨y,hy⟩:=Option.isSome_iff_exists.1 h1
  obtain ⟨q1,q2⟩:=hW.f1 c h3;rcases (hW.blk b y hy).2.2 with h4|h4
  ·omega
  ·rw[h2] at h4;exact q2 ⟨b,h4⟩
theorem to_ok(hW:WR X E){t c:Nat}(hc:c<E.w.heap.size)(h:okc X E t c):okc (calleeX X E ids lent) (calleeE E ids bs) 1 c:=by
 refine .inr ⟨by omega,hc,notA hW h,.inr ?_⟩;rcases h with h|⟨_,h⟩
 ·exact .inl h
 ·exact .inr ⟨by omega,h⟩
theorem calleeE_m{i b:Nat}(h:ids[i]?=some b):(calleeE E ids bs).m (PB+i)=E.m b:=by
 simp[calleeE,h]
theorem toR_sound(hW:WR X E){bor:Bool}{x:AR}{v:Value}{y:AR}(r:RR X E x v)(e:toR bor E.h ids x=some y)(hl:lentR ids x=true→lent=true) :
  RR (calleeX X E ids lent) (calleeE E ids bs) y v:=by
 have hre:∀ t c,c<E.w.heap.size→okc X E t c→okc (calleeX X E ids lent) (calleeE E ids bs) 1 c:=fun t c hc h=>to_ok hW hc h;cases x with
 |i iv =>
  simp[toR] at e;subst e;exact VR.retag hre r
 |ptr b g off =>
  simp only[toR] at e;split at e
  ·rename_i i hi
   split at e
   ·rename_i hcur
    simp at e;subst e;obtain ⟨h1,h2,h3⟩:=r;refine ⟨h1,Nat.lt_succ_self _,fun _=>?_⟩;rw[calleeE_m (idxOf_some hi)];exact h3 hcur
   ·simp at e
  ·rename_i hi
   split at e
   ·have hlent:lent=true:=hl (by simp[lentR,hi])
    split at e
    ·rename_i iv hiv
     simp at e;subst e;have h2:=rd_sound hW (fun b=>(idxOf ids b).isNone) 1 (fun _ c=>okc (calleeX X E ids lent) (calleeE E ids bs) 1 c) (fun t c hc h=>to_ok hW hc h)
      (fun b x hq hg=>by
       refine .inr ⟨by omega,hW.lt hg,?_,.inl hlent⟩;rintro ⟨b',hb',h3,h4⟩
       have:=hW.inj b' b h3 (by simp[hg]) h4
       subst this;exact idxOf_none (by simpa using hq) hb') rdDepth (.r (.ptr b g off)) v iv r hiv
     exact VR.retag (fun t c _ h=>h) h2
    ·simp at e
   ·simp at e
 |map b g =>
  simp only[toR] at e;split at e
  ·rename_i i hi
   split at e
   ·rename_i hcur
    simp at e;subst e;obtain ⟨h1,h2,h3⟩:=r;refine ⟨h1,Nat.lt_succ_self _,fun _=>?_⟩;rw[calleeE_m (idxOf_some hi)];exact h3 hcur
   ·simp at e
  ·simp at e
 |sl b g off sz len =>
  simp only[toR] at e;split at e
  ·rename_i i hi
   split at e
   ·rename_i hcur
    simp at e;subst e;obtain ⟨h1,h2,h3⟩:=r;refine ⟨h1,Nat.lt_succ_self _,fun _=>?_⟩;rw[calleeE_m (idxOf_some hi)];exact h3 hcur
   ·simp at e
  ·rename_i hi
   split at e
   ·have hlent:lent=true:=hl (by simp[lentR,hi])
    split at e
    ·rename_i iv hiv
     simp at e;subst e;have h2:=rd_sound hW (fun b=>(idxOf ids b).isNone) 1 (fun _ c=>okc (calleeX X E ids lent) (calleeE E ids bs) 1 c) (fun t c hc h=>to_ok hW hc h)
      (fun b x hq hg=>by
       refine .inr ⟨by omega,hW.lt hg,?_,.inl hlent⟩;rintro ⟨b',hb',h3,h4⟩
       have:=hW.inj b' b h3 (by simp[hg]) h4
       subst this;exact idxOf_none (by simpa using hq) hb') rdDepth (.r (.sl b g off sz len)) v iv r hiv
     exact VR.retag (fun t c _ h=>h) h2
    ·simp at e
   ·simp at e
theorem toC_sound(hW:WR X E){bor:Bool}{x:AC}{v:Value}{y:AC}(r:CC X E x v)(e:toC bor E.h ids x=some y)(hl:lentC ids x=true→lent=true) :
  CC (calleeX X E ids lent) (calleeE E ids bs) y v:=by
 cases x with
 |r a =>
  simp only[toC] at e;cases hq:toR bor E.h ids a with
  |none=>simp[hq] at e
  |some b=>simp[hq] at e;subst e;exact toR_sound hW r hq hl
 |clo f caps =>
  simp only[toC] at e;cases hq:traverse (toR bor E.h ids) caps with
  |none=>simp[hq] at e
  |some cs =>
   simp[hq] at e;subst e;obtain ⟨ws,rfl,hr⟩:=r;refine mkClo_sound ?_;have aux:∀ {l:List AR} {m:List Value} {l':List AR},All2 (RR X E) l m→traverse (toR bor E.h ids) l=some l'→(∀ x∈l,lentR ids x=true→lent=true) →
     All2 (RR (calleeX X E ids lent) (calleeE E ids bs)) l' m:=by
    intro l m l' h;induction h generalizing l' with
    |nil=>intro e _;simp[traverse] at e;subst e;exact .nil
    |cons h _ ih =>
     intro e hx;simp only[traverse] at e;split at e
     ·simp at e
     ·rename_i b hb
      split at e
      ·simp at e
      ·rename_i bs' hbs
       simp at e;subst e;exact .cons (toR_sound hW h hb (hx _ (.head _))) (ih hbs fun x hx'=>hx x (.tail _ hx'))
   exact aux hr hq fun x hx h=>hl (by simp only[lentC,List.any_eq_true];exact ⟨x,hx,h⟩)
theorem toCs_sound(hW:WR X E){bor:Bool}:∀ {l:List AC} {m:List Value} {l':List AC},All2 (CC X E) l m→traverse (toC bor E.h ids) l=some l'→(∀ x∈l,lentC ids x=true→lent=true) →
  All2 (CC (calleeX X E ids lent) (calleeE E ids bs)) l' m:=by
 intro l m l' h;induction h generalizing l' with
 |nil=>intro e _;simp[traverse] at e;subst e;exact .nil
 |cons h _ ih =>
  intro e hx;simp only[traverse] at e;split at e
  ·simp at e
  ·rename_i b hb
   split at e
   ·simp at e
   ·rename_i bs' hbs
    simp at e;subst e;exact .cons (toC_sound hW h hb (hx _ (.head _))) (ih hbs fun x hx'=>hx x (.tail _ hx'))
theorem to1_sound(hW:WR X E){bor:Bool}{x:A1}{v:Value}{y:A1}(r:A1R X E x v)(e:to1 bor E.h ids x=some y)(hl:∀ z∈x.cells,lentC ids z=true→lent=true) :
  A1R (calleeX X E ids lent) (calleeE E ids bs) y v:=by
 cases x with
 |c x =>
  simp only[to1] at e;cases hq:toC bor E.h ids x with
  |none=>simp[hq] at e
  |some b=>simp[hq] at e;subst e;exact toC_sound hW r hq (hl x (by simp[A1.cells]))
 |agg xs =>
  simp only[to1] at e;cases hq:traverse (toC bor E.h ids) xs with
  |none=>simp[hq] at e
  |some b =>
   simp[hq] at e;subst e;obtain ⟨vs,rfl,hr⟩:=r;exact ⟨vs,rfl,toCs_sound hW hr hq fun z hz=>hl z hz⟩
theorem toR_strict{x:AR}{y:AR}{h:Heap}(e:toR false h ids x=some y):lentR ids x=false:=by
 cases x with
 |sl b g off sz len =>
  simp only[toR] at e;split at e
  ·rename_i i hi;simp[lentR,hi]
  ·simp at e
 |ptr b g off =>
  simp only[toR] at e;split at e
  ·rename_i i hi;simp[lentR,hi]
  ·simp at e
 |_=>rfl
theorem traverse_mem{α β:Type}{f:α→Option β}:∀ {l:List α} {l':List β},traverse f l=some l'→∀ x∈l,∃ y,f x=some y
 |[],_,_,x,hx=>by simp at hx
 |a::l,_,h,x,hx=>by
  simp only[traverse] at h
  split at h
  ·simp at h
  ·rename_i b hb
   split at h
   ·simp at h
   ·rename_i bs hbs
    rcases List.mem_cons.1 hx with rfl|hx
    ·exact ⟨b,hb⟩
    ·exact traverse_mem hbs x hx
theorem toC_strict{x:AC}{y:AC}{h:Heap}(e:toC false h ids x=some y):lentC ids x=false:=by
 cases x with
 |r a =>
  simp only[toC] at e;cases hq:toR false h ids a with
  |none=>simp[hq] at e
  |some b=>exact toR_strict hq
 |clo f caps =>
  simp only[toC] at e;cases hq:traverse (toR false h ids) caps with
  |none=>simp[hq] at e
  |some cs =>
   simp only[lentC,List.any_eq_false];intro x hx;obtain ⟨y,hy⟩:=traverse_mem hq x hx;simp[toR_strict hy]
theorem to1_strict{x:A1}{y:A1}{h:Heap}(e:to1 false h ids x=some y):∀ z∈x.cells,lentC ids z=true→lent=true:=by
 intro z hz hq;cases x with
 |c x =>
  simp[A1.cells] at hz;subst hz;simp only[to1] at e;cases h2:toC false h ids z with
  |none=>simp[h2] at e
  |some b=>rw[toC_strict h2] at hq;simp at hq
 |agg xs =>
  simp only[to1] at e;cases h2:traverse (toC false h ids) xs with
  |none=>simp[h2] at e
  |some b =>
   obtain ⟨y,hy⟩:=traverse_mem h2 z hz;rw[toC_strict hy] at hq;simp at hq
theorem toB_sound(hW:WR X E){b i:Nat}(hb:ids[i]?=some b){x y:Blk}(r:BR X E b x)(e:toB E.h ids x=some y):BR (calleeX X E ids lent) (calleeE E ids bs) (PB+i) y:=by
 have hm:=calleeE_m (E:=E) (bs:=bs) hb;cases x with
 |cells g cs =>
  simp only[toB] at e;cases hq:traverse (toC false E.h ids) cs with
  |none=>simp[hq] at e
  |some cs' =>
   simp[hq] at e;subst e;obtain ⟨cc,ee,fr,h1,h2,h3,h4⟩:=r;refine ⟨cc,ee,fr,by rw[hm];exact h1,h2,by rw[hm,traverse_length hq];exact h3,fun k z hk hz=>?_⟩;rw[hm] at hk ⊢;obtain ⟨z0,hz0,hzz⟩:=traverse_get hq k z hz;obtain ⟨w,hw,hr⟩:=h4 k z0 hk hz0;exact ⟨w,hw,toC_sound hW hr hzz (by rw[toC_strict hzz];simp)⟩
 |map g es k =>
  simp only[toB] at e;cases hq:traverse (toEnt E.h ids) es with
  |none=>simp[hq] at e
  |some es' =>
   simp[hq] at e;subst e;obtain ⟨ces,h1,h2⟩:=r;refine ⟨ces,by rw[hm];exact h1,h2.of_traverse (fun u w z hr hz=>?_) hq⟩;unfold toEnt at hz;split at hz
   ·rename_i kk vv hk hv
    simp at hz;subst hz;exact ⟨to1_sound hW hr.key hk (to1_strict hk),to1_sound hW hr.val hv (to1_strict hv),hr.born⟩
   ·simp at hz
 |iter g l p =>
  simp[toB] at e;subst e;obtain ⟨s,h1,h2⟩:=r;exact ⟨s,by rw[hm];exact h1,h2⟩
theorem handOver_get{h:Heap}(e:handOver h ids=some bs){i:Nat}{y:Blk}(hy:bs[i]?=some y):∃ b x,ids[i]?=some b∧h.get b=some x∧toB h ids x=some y:=by
 obtain ⟨b,hb,hq⟩:=traverse_get e i y hy;split at hq
 ·rename_i x hx
  exact ⟨b,x,hb,hx,hq⟩
 ·simp at hq
theorem nodupB_inj:∀ {l:List Nat} (_:nodupB l=true) {i j b:Nat},l[i]?=some b→l[j]?=some b→i=j
 |[],_,i,j,b,h,_=>by simp at h
 |a::l,e,i,j,b,hi,hj=>by
  simp[nodupB] at e
  cases i with
  |zero =>
   simp at hi;subst hi
   cases j with
   |zero=>rfl
   |succ j=>simp at hj;exact absurd (List.mem_of_getElem? hj) e.1
  |succ i =>
   simp at hi
   cases j with
   |zero=>simp at hj;subst hj;exact absurd (List.mem_of_getElem? hi) e.1
   |succ j=>simp at hj;rw[nodupB_inj e.2 hi hj]
theorem callee_wr(hW:WR X E)(hn:nodupB ids=true)(e:handOver E.h ids=some bs):WR (calleeX X E ids lent) (calleeE E ids bs):=by
 have hget:∀ k y,(calleeE E ids bs).h.get k=some y→∃ i,k=PB+i∧bs[i]?=some y:=fun k y h=>by
  have h2:=zip_get bs k 0;rw[Nat.add_zero] at h2;have h3:(if PB≤k then bs[k-PB]? else none)=some y:=h2.symm.trans h;split at h3
  ·rename_i hk
   exact ⟨k-PB,(Nat.add_sub_cancel' hk).symm,h3⟩
  ·simp at h3
 refine ⟨fun k y hy=>?_,fun k k' h1 h2 he=>?_,Nat.le_refl _,fun _ _ _=>rfl,rfl,rfl,rfl,fun c hc=>⟨hc.1,?_⟩,?_,fun c o hc=>by simp[calleeX] at hc⟩
 ·obtain ⟨i,rfl,hi⟩:=hget k y hy
  obtain ⟨b,x,hb,hx,hxy⟩:=handOver_get e hi;refine ⟨toB_sound hW hb (hW.blk b x hx).1 hxy,by rw[toB_gen hxy];exact Nat.lt_succ_self _,.inr ⟨i,b,rfl,hb,by simp[hx],by rw[calleeE_m hb]⟩⟩
 ·obtain ⟨y,hy⟩:=Option.isSome_iff_exists.1 h1
  obtain ⟨y',hy'⟩:=Option.isSome_iff_exists.1 h2;obtain ⟨i,rfl,hi⟩:=hget k y hy;obtain ⟨j,rfl,hj⟩:=hget k' y' hy';obtain ⟨b,x,hb,hx,_⟩:=handOver_get e hi;obtain ⟨b',x',hb',hx',_⟩:=handOver_get e hj;rw[calleeE_m hb,calleeE_m hb'] at he
  have:=hW.inj b b' (by simp[hx]) (by simp[hx']) he
  subst this;rw[nodupB_inj hn hb hb']
 ·rintro ⟨k,i,b,_,h2,h3,h4⟩
  exact hc.2.1 ⟨b,List.mem_of_getElem? h2,h3,h4⟩
 ·rintro k c ⟨i,b,rfl,h2,h3,h4⟩
  obtain ⟨y,hy⟩:=Option.isSome_iff_exists.1 h3;refine ⟨by omega,?_⟩;rw[← h4];exact hW.lt hy
theorem callee_gok(hW:WR X E){G:Nat→List IV}(hG:GOk X G):GOk (calleeX X E ids lent) G:=by
 intro g hg;obtain ⟨h1,h2,cc,e,fr,h3,h4⟩:=hG g hg;refine ⟨Nat.lt_of_lt_of_le h1 hW.size,?_,cc,e,fr,?_,h4⟩
 ·rintro ⟨k,i,b,_,q2,q3,q4⟩
  obtain ⟨y,hy⟩:=Option.isSome_iff_exists.1 q3;rcases (hW.blk b y hy).2.2 with q5|q5
  ·omega
  ·rw[q4] at q5;exact h2 ⟨b,q5⟩
 ·show E.w.heap[g]?=_
  rw[hW.still g h1 h2];exact h3
end
theorem backAt_mem{pl:List (Nat×Nat×Nat)}{b c g:Nat}(h:backAt pl b=some (c,g)):(b,c,g)∈pl:=by
 induction pl with
 |nil=>simp[backAt] at h
 |cons e l ih =>
  obtain ⟨k,c',g'⟩:=e;simp only[backAt] at h;split at h
  ·rename_i e;subst e;simp at h;obtain ⟨rfl,rfl⟩:=h;exact .head _
  ·exact .tail _ (ih h)
theorem backAt_none{pl:List (Nat×Nat×Nat)}{b:Nat}(h:backAt pl b=none):∀ e∈pl,e.1≠b:=by
 induction pl with
 |nil=>simp
 |cons e l ih =>
  obtain ⟨k,c',g'⟩:=e;simp only[backAt] at h;split at h
  ·simp at h
  ·rename_i hne
   intro e he;rcases List.mem_cons.1 he with rfl|he
   ·exact hne
   ·exact ih h e he
structure Back(X X':Cx)(E' E2:Env)(pl:List (Nat×Nat×Nat))(lent:Bool):Prop where
  w:E2.w=E'.w
  at_:∀ k c g,backAt pl k=some (c,g)→E2.m c=E'.m k∧g<E2.ct
  ok0:∀ c,okc X' E' 0 c→okc X E2 0 c
  okt:lent=false→∀ t c,okc X' E' t c→okc X E2 t c
  loc:∀ b x,backAt pl b=none→E'.h.get b=some x→okc X E2 0 (E'.m b).1
section
variable {P:Program} {X X':Cx} {E' E2:Env} {pl:List (Nat×Nat×Nat)} {lent:Bool}
theorem backR_sound(hW:WR X' E')(hB:Back X X' E' E2 pl lent){x:AR}{v:Value}{y:AR}(r:RR X' E' x v)(e:backR E'.h pl lent x=some y):RR X E2 y v:=by
 cases x with
 |i iv =>
  simp only[backR] at e;split at e
  ·simp at e
  ·rename_i hl
   simp at e;subst e;show VR (okc X E2) E2.w.heap iv v;rw[hB.w];cases hlent:lent with
   |false=>exact VR.mono (fun t c _ h=>⟨hB.okt hlent t c h,rfl⟩) r
   |true =>
    simp[hlent] at hl;exact VR.fresh (fun c _ h=>hB.ok0 c h) r hl
 |ptr b g off =>
  simp only[backR] at e;split at e
  ·rename_i c g' hb
   split at e
   ·rename_i hcur
    simp at e;subst e;obtain ⟨h1,h2,h3⟩:=r;obtain ⟨q1,q2⟩:=hB.at_ _ _ _ hb;exact ⟨h1,q2,fun _=>by rw[q1];exact h3 hcur⟩
   ·simp at e
  ·simp at e
 |map b g =>
  simp only[backR] at e;split at e
  ·rename_i c g' hb
   split at e
   ·rename_i hcur
    simp at e;subst e;obtain ⟨h1,h2,h3⟩:=r;obtain ⟨q1,q2⟩:=hB.at_ _ _ _ hb;exact ⟨h1,q2,fun _=>by rw[q1];exact h3 hcur⟩
   ·simp at e
  ·simp at e
 |sl b g off sz len =>
  simp only[backR] at e;split at e
  ·rename_i c g' hb
   split at e
   ·rename_i hcur
    simp at e;subst e;obtain ⟨h1,h2,h3⟩:=r;obtain ⟨q1,q2⟩:=hB.at_ _ _ _ hb;exact ⟨h1,q2,fun _=>by rw[q1,hB.w];exact h3 hcur⟩
   ·simp at e
  ·rename_i hb
   split at e
   ·rename_i iv hiv
    split at e
    ·simp at e
    ·rename_i hl
     simp at e;subst e;have h2:=rd_sound hW (fun b=>(backAt pl b).isNone) 0 (fun t c=>(t=0∨lent=false)→okc X E2 t c)
      (fun t c _ h hq=>by
       rcases hq with rfl|hq
       ·exact hB.ok0 c h
       ·exact hB.okt hq t c h)
      (fun b x hq hg _=>hB.loc b x (by simpa using hq) hg) rdDepth (.r (.sl b g off sz len)) v iv r hiv
     show VR (okc X E2) E2.w.heap iv v;rw[hB.w];cases hlent:lent with
     |false=>exact VR.mono (fun t c _ h=>⟨h (.inr hlent),rfl⟩) h2
     |true =>
      simp[hlent] at hl;exact VR.fresh (fun c _ h=>h (.inl rfl)) h2 hl
   ·simp at e
theorem backC_sound(hW:WR X' E')(hB:Back X X' E' E2 pl lent){x:AC}{v:Value}{y:AC}(r:CC X' E' x v)(e:backC E'.h pl lent x=some y):CC X E2 y v:=by
 cases x with
 |r a =>
  simp only[backC] at e;cases hq:backR E'.h pl lent a with
  |none=>simp[hq] at e
  |some b=>simp[hq] at e;subst e;exact backR_sound hW hB r hq
 |clo f caps =>
  simp only[backC] at e;cases hq:traverse (backR E'.h pl lent) caps with
  |none=>simp[hq] at e
  |some cs =>
   simp[hq] at e;subst e;obtain ⟨ws,rfl,hr⟩:=r;exact mkClo_sound (hr.of_traverse (fun _ _ _ r e=>backR_sound hW hB r e) hq)
theorem back1_sound(hW:WR X' E')(hB:Back X X' E' E2 pl lent){x:A1}{v:Value}{y:A1}(r:A1R X' E' x v)(e:back1 E'.h pl lent x=some y):A1R X E2 y v:=by
 cases x with
 |c a =>
  simp only[back1] at e;cases hq:backC E'.h pl lent a with
  |none=>simp[hq] at e
  |some b=>simp[hq] at e;subst e;exact backC_sound hW hB r hq
 |agg xs =>
  simp only[back1] at e;cases hq:traverse (backC E'.h pl lent) xs with
  |none=>simp[hq] at e
  |some cs =>
   simp[hq] at e;subst e;obtain ⟨ws,rfl,hr⟩:=r;exact ⟨ws,rfl,hr.of_traverse (fun _ _ _ r e=>backC_sound hW hB r e) hq⟩
theorem backB_gen{h:Heap}{g:Nat}{x y:Blk}(e:backB h pl lent g x=some y):y.gen=g:=by
 cases x with
 |cells g cs=>simp only[backB] at e;cases hq:traverse (backC h pl lent) cs<;>simp[hq] at e;subst e;rfl
 |map g es k=>simp only[backB] at e;cases hq:traverse (backEnt h pl lent) es<;>simp[hq] at e;subst e;rfl
 |iter g l p=>simp[backB] at e;subst e;rfl
theorem backB_sound(hW:WR X' E')(hB:Back X X' E' E2 pl lent){k c g:Nat}(hm:E2.m c=E'.m k){x y:Blk}(r:BR X' E' k x)(e:backB E'.h pl lent g x=some y):BR X E2 c y:=by
 cases x with
 |cells g0 cs =>
  simp only[backB] at e;cases hq:traverse (backC E'.h pl lent) cs with
  |none=>simp[hq] at e
  |some cs' =>
   simp[hq] at e;subst e;obtain ⟨cc,ee,fr,h1,h2,h3,h4⟩:=r;refine ⟨cc,ee,fr,by rw[hm,hB.w];exact h1,h2,by rw[hm,traverse_length hq];exact h3,fun i z hi hz=>?_⟩;rw[hm] at hi ⊢;obtain ⟨z0,hz0,hzz⟩:=traverse_get hq i z hz;obtain ⟨w,hw,hr⟩:=h4 i z0 hi hz0;exact ⟨w,hw,backC_sound hW hB hr hzz⟩
 |map g0 es k0 =>
  simp only[backB] at e;cases hq:traverse (backEnt E'.h pl lent) es with
  |none=>simp[hq] at e
  |some es' =>
   simp[hq] at e;subst e;obtain ⟨ces,h1,h2⟩:=r;refine ⟨ces,by rw[hm,hB.w];exact h1,h2.of_traverse (fun u w z hr hz=>?_) hq⟩;unfold backEnt at hz;split at hz
   ·rename_i kk vv hk hv
    simp at hz;subst hz;exact ⟨back1_sound hW hB hr.key hk,back1_sound hW hB hr.val hv,hr.born⟩
   ·simp at hz
 |iter g0 l p =>
  simp[backB] at e;subst e;obtain ⟨s,h1,h2⟩:=r;exact ⟨s,by rw[hm,hB.w];exact h1,h2⟩
theorem backH_other{h:Heap}:∀ (l:List (Nat×Nat×Nat)) (hp hp':Heap),backH h pl lent l hp=some hp'→∀ b,(∀ e∈l,e.2.1≠b)→hp'.get b=hp.get b
 |[],hp,hp',e,b,_=>by simp[backH] at e;rw[e]
 |(k,c,g)::l,hp,hp',e,b,hb=>by
  simp only[backH] at e
  split at e
  ·split at e
   ·rename_i y hy
    rw[backH_other l _ _ e b (fun e he=>hb e (.tail _ he)),Heap.get_set,if_neg (fun q=>hb _ (.head _) q.symm)]
   ·simp at e
  ·simp at e
theorem backH_at{h:Heap}:∀ (l:List (Nat×Nat×Nat)) (hp hp':Heap),backH h pl lent l hp=some hp'→(l.map (·.2.1)).Nodup→∀ k c g,(k,c,g)∈l →
  ∃ x y,h.get k=some x∧backB h pl lent g x=some y∧hp'.get c=some y
 |[],_,_,_,_,_,_,_,hm=>by simp at hm
 |(k0,c0,g0)::l,hp,hp',e,hn,k,c,g,hm=>by
  simp only[backH] at e
  split at e
  ·rename_i x hx
   split at e
   ·rename_i y hy
    simp only[List.map_cons,List.nodup_cons] at hn
    rcases List.mem_cons.1 hm with heq|hm
    ·injection heq with h1 h2
     injection h2 with h2 h3
     subst h1;subst h2;subst h3
     refine ⟨x,y,hx,hy,?_⟩
     rw[backH_other l _ _ e c (fun e he q=>hn.1 (List.mem_map.2 ⟨e,he,q⟩)),Heap.get_set,if_pos rfl]
    ·exact backH_at l _ _ e hn.2 k c g hm
   ·simp at e
  ·simp at e
end
theorem nodupB_nodup:∀ {l:List Nat},nodupB l=true→l.Nodup
 |[],_=>.nil
 |a::l,e=>by
  simp[nodupB] at e
  exact List.nodup_cons.2 ⟨e.1,nodupB_nodup e.2⟩
section
variable {P:Program} {X:Cx} {E E':Env} {ids:List Nat} {bs:List Blk} {lent:Bool} {ad:List (Nat×Nat)} {hp':Heap}
theorem places_mem{h hp:Heap}{ct k c g:Nat}(hm:(k,c,g)∈placesOf h hp ct ids ad) :
  (∃ i,k=PB+i∧ids[i]?=some c∧g=if h.cur (PB+i)=some 0 then (hp.cur c).getD ct else ct)∨((k,c)∈ad∧g=ct):=by
 unfold placesOf at hm;rcases List.mem_append.1 hm with hm|hm
 ·obtain ⟨⟨b,i⟩,hbi,heq⟩:=List.mem_map.1 hm
  injection heq with h1 h2;injection h2 with h2 h3;subst h1;subst h2
  have:=List.mem_zipIdx_iff_getElem?.1 hbi
  exact .inl ⟨i,rfl,by simpa using this,h3.symm⟩
 ·obtain ⟨⟨k',c'⟩,hkc,heq⟩:=List.mem_map.1 hm
  injection heq with h1 h2;injection h2 with h2 h3;subst h1;subst h2;exact .inr ⟨hkc,h3.symm⟩
theorem places_map{h hp:Heap}{ct:Nat}:(placesOf h hp ct ids ad).map (·.2.1)=ids++ad.map (·.2):=by
 unfold placesOf;rw[List.map_append,List.map_map,List.map_map];congr 1;have:∀ (l:List Nat) (n:Nat),((l.zipIdx n).map ((fun e:Nat×Nat×Nat=>e.2.1) ∘ fun (b,i)=>(PB+i,b,if h.cur (PB+i)=some 0 then (hp.cur b).getD ct else ct)))=l:=by
  intro l;induction l with
  |nil=>intro n;rfl
  |cons a l ih=>intro n;simp only[List.zipIdx_cons,List.map_cons,ih];rfl
 exact this ids 0
theorem places_id{h hp:Heap}{ct i b:Nat}(hi:ids[i]?=some b):∃ g,(PB+i,b,g)∈placesOf h hp ct ids ad:=by
 unfold placesOf;exact ⟨_,List.mem_append.2 (.inl (List.mem_map.2 ⟨(b,i),List.mem_zipIdx_iff_getElem?.2 (by simpa using hi),rfl⟩))⟩
theorem ret_wr(hW:WR X E)(hn:nodupB ids=true)(ho:handOver E.h ids=some bs)(hW':WR (calleeX X E ids lent) E')(hx:Ext (calleeX X E ids lent) (calleeE E ids bs) E')
  (had:ad.all (fun p=>decide (p.1<PB)&&(E.h.get p.2).isNone)=true) (hn1:nodupB (ad.map (·.1))=true) (hn2:nodupB (ad.map (·.2))=true)
  (hb:backH E'.h (placesOf E'.h E.h E.ct ids ad) lent (placesOf E'.h E.h E.ct ids ad) E.h=some hp') :
  ∃ E2,E2.w=E'.w∧E2.h=hp'∧E2.ct=E.ct+1∧WR X E2∧Ext X E E2∧E.w.heap.size≤E2.w.heap.size∧Back X (calleeX X E ids lent) E' E2 (placesOf E'.h E.h E.ct ids ad) lent:=by
 generalize hpl:placesOf E'.h E.h E.ct ids ad=pl at hb;have hmem:∀ k c g,(k,c,g)∈pl→(∃ i,k=PB+i∧ids[i]?=some c∧g=if E'.h.cur (PB+i)=some 0 then (E.h.cur c).getD E.ct else E.ct)∨((k,c)∈ad∧g=E.ct):=fun k c g h=>by
  rw[← hpl] at h;exact places_mem h
 have hid:∀ i b,ids[i]?=some b→∃ g,(PB+i,b,g)∈pl:=fun i b h=>by rw[← hpl];exact places_id h
 have hadm:∀ k c,(k,c)∈ad→k<PB∧E.h.get c=none:=fun k c h=>by
  have:=List.all_eq_true.1 had (k,c) h
  simpa using this
 have hlive:∀ i b,ids[i]?=some b→∃ x y,E.h.get b=some x∧toB E.h ids x=some y:=fun i b h=>by
  obtain ⟨y,hy⟩:=traverse_mem ho b (List.mem_of_getElem? h);split at hy
  ·rename_i x hx;exact ⟨x,y,hx,hy⟩
  ·simp at hy
 have hcn:(pl.map (·.2.1)).Nodup:=by
  rw[← hpl,places_map];refine List.nodup_append.2 ⟨nodupB_nodup hn,nodupB_nodup hn2,fun a ha b hb2 q=>?_⟩;subst q;obtain ⟨⟨k,c⟩,hkc,rfl⟩:=List.mem_map.1 hb2;obtain ⟨i,hi⟩:=List.mem_iff_getElem?.1 ha;obtain ⟨x,_,hx,_⟩:=hlive i c hi;rw[(hadm k c hkc).2] at hx;simp at hx
 have hcu:∀ k c g k' g',(k,c,g)∈pl→(k',c,g')∈pl→k=k':=by
  intro k c g k' g' h1 h2;rcases hmem k c g h1 with ⟨i,rfl,hi,_⟩|⟨hka,_⟩<;>rcases hmem k' c g' h2 with ⟨j,rfl,hj,_⟩|⟨hkb,_⟩
  ·rw[nodupB_inj hn hi hj]
  ·obtain ⟨x,_,hx,_⟩:=hlive i c hi
   rw[(hadm k' c hkb).2] at hx;simp at hx
  ·obtain ⟨x,_,hx,_⟩:=hlive j c hj
   rw[(hadm k c hka).2] at hx;simp at hx
  ·obtain ⟨i,hi⟩:=List.mem_iff_getElem?.1 hka
   obtain ⟨j,hj⟩:=List.mem_iff_getElem?.1 hkb;have:i=j:=nodupB_inj hn2 (b:=c) (by simp[hi]) (by simp[hj]);subst this;rw[hi] at hj;injection hj with hj;injection hj
 have hku:∀ k c g c' g',(k,c,g)∈pl→(k,c',g')∈pl→c=c':=by
  intro k c g c' g' h1 h2;rcases hmem k c g h1 with ⟨i,rfl,hi,_⟩|⟨hka,_⟩<;>rcases hmem _ c' g' h2 with ⟨j,hjk,hj,_⟩|⟨hkb,_⟩
  ·have:i=j:=by omega
   subst this;rw[hi] at hj;injection hj
  ·have:=(hadm _ c' hkb).1;omega
  ·have:=(hadm k c hka).1;omega
  ·obtain ⟨i,hi⟩:=List.mem_iff_getElem?.1 hka
   obtain ⟨j,hj⟩:=List.mem_iff_getElem?.1 hkb;have:i=j:=nodupB_inj hn1 (b:=k) (by simp[hi]) (by simp[hj]);subst this;rw[hi] at hj;injection hj with hj;injection hj
 let m2:Nat→Nat×Nat:=fun b=>match pl.find? (fun e=>e.2.1==b) with|some e=>E'.m e.1|none=>E.m b
 have hm2:∀ k c g,(k,c,g)∈pl→m2 c=E'.m k:=by
  intro k c g h;simp only[m2];cases hf:pl.find? (fun e=>e.2.1==c) with
  |none=>have:=List.find?_eq_none.1 hf _ h;simp at this
  |some e =>
   obtain ⟨k',c',g'⟩:=e;have h1:=List.find?_some hf;have h2:=List.mem_of_find?_eq_some hf;simp at h1;subst h1;simp only;rw[hcu _ _ _ _ _ h2 h]
 have hm2':∀ b,(∀ e∈pl,e.2.1≠b)→m2 b=E.m b:=by
  intro b h;simp only[m2];cases hf:pl.find? (fun e=>e.2.1==b) with
  |none=>rfl
  |some e =>
   have h1:=List.find?_some hf;exact absurd (by simpa using h1) (h e (List.mem_of_find?_eq_some hf))
 let E2:Env:={h:=hp',m:=m2,ct:=E.ct+1,w:=E'.w}
 have hat:=backH_at pl _ _ hb hcn;have hoth:=backH_other pl _ _ hb;have hsz:E.w.heap.size≤E'.w.heap.size:=hW'.size
 -- what was not handed over stands still
 have hstill:∀ c,c<E.w.heap.size→(¬ ∃ b,b∈ids∧(E.h.get b).isSome=true∧(E.m b).1=c)→E'.w.heap[c]?=E.w.heap[c]?:=fun c hc hA =>
  hW'.still c hc (by
   rintro ⟨k,i,b,_,h2,h3,h4⟩;exact hA ⟨b,List.mem_of_getElem? h2,h3,h4⟩)
 -- where the callee's blocks lie
 have hloc:∀ k x,E'.h.get k=some x→E.w.heap.size≤(E'.m k).1∨∃ i b,k=PB+i∧ids[i]?=some b∧(E'.m k).1=(E.m b).1:=fun k x h=>by
  rcases (hW'.blk k x h).2.2 with h1|⟨i,b,h1,h2,h3,h4⟩
  ·exact .inl h1
  ·exact .inr ⟨i,b,h1,h2,h4.symm⟩
 -- what lives behind
 have hlive2:∀ c,E2.live c→(∃ k c' g,(k,c',g)∈pl∧(E'.h.get k).isSome=true∧(E'.m k).1=c)∨(∃ b,(∀ e∈pl,e.2.1≠b)∧(E.h.get b).isSome=true∧(E.m b).1=c):=by
  rintro c ⟨b,h1,h2⟩;by_cases hp:∃ e∈pl,e.2.1=b
  ·obtain ⟨⟨k,c',g⟩,he,hc'⟩:=hp
   simp at hc';subst hc';obtain ⟨x,y,q1,_,_⟩:=hat k c' g he;have:m2 c'=E'.m k:=hm2 k c' g he;have h3:(m2 c').1=c:=h2;rw[this] at h3;exact .inl ⟨k,c',g,he,by simp[q1],h3⟩
  ·have hpn:∀ e∈pl,e.2.1≠b:=fun e he q=>hp ⟨e,he,q⟩
   have h3:(m2 b).1=c:=h2;rw[hm2' b hpn] at h3;have h4:(hp'.get b).isSome=true:=h1;rw[hoth b hpn] at h4;exact .inr ⟨b,hpn,h4,h3⟩
 have hHlt:∀ c,(X.H c).isSome=true→c<E.w.heap.size:=fun c hH=>by
  obtain ⟨o,ho⟩:=Option.isSome_iff_exists.1 hH;exact (Array.getElem?_eq_some_iff.1 (hW.hid c o ho).1).1
 have hnotin:∀ b,(∀ e∈pl,e.2.1≠b)→b∉ids:=fun b h hbi=>by
  obtain ⟨i,hi⟩:=List.mem_iff_getElem?.1 hbi;obtain ⟨g,hg⟩:=hid i b hi;exact h _ hg rfl
 have hokold:∀ t c,c<E.w.heap.size→okc X E t c→okc X E2 t c:=by
  intro t c hc h;rcases h with ⟨h1,h2⟩|h
  ·refine .inl ⟨h1,fun hl=>?_⟩
   rcases hl with hl|hH
   ·rcases hlive2 c hl with ⟨k,c',g,he,hk,hkc⟩|⟨b,_,h3,h4⟩
    ·obtain ⟨x,hxx⟩:=Option.isSome_iff_exists.1 hk
     rcases hloc k x hxx with h5|⟨i,b,_,hib,h5⟩
     ·omega
     ·obtain ⟨y,_,hy,_⟩:=hlive i b hib
      exact h2 (.inl ⟨b,by simp[hy],by omega⟩)
    ·exact h2 (.inl ⟨b,h3,h4⟩)
   ·exact h2 (.inr hH)
  ·exact .inr h
 have hBack:Back X (calleeX X E ids lent) E' E2 pl lent:=by
  refine ⟨rfl,fun k c g h=>?_,fun c h=>?_,fun hl t c h=>?_,fun b x hbn hg=>?_⟩
  ·have hm:=backAt_mem h
   refine ⟨hm2 k c g hm,?_⟩;show g<E.ct+1;rcases hmem k c g hm with ⟨i,_,hi,rfl⟩|⟨_,rfl⟩
   ·split
    ·obtain ⟨y,_,hy,_⟩:=hlive i c hi
     rw[Heap.cur_of_get hy]
     have:=(hW.blk c y hy).2.1
     simp;omega
    ·omega
   ·omega
  ·rcases h with ⟨h1,h2⟩|⟨h1,_⟩
   ·have h1:E.w.heap.size≤c:=h1
    refine .inl ⟨Nat.le_trans hW.size h1,fun hl=>?_⟩;rcases hl with hl|hH
    ·rcases hlive2 c hl with ⟨k,c',g,he,hk,hkc⟩|⟨b,_,h3,h4⟩
     ·exact h2 (.inl ⟨k,hk,hkc⟩)
     ·obtain ⟨y,hy⟩:=Option.isSome_iff_exists.1 h3
      have:=hW.lt hy;omega
    ·have:=hHlt c hH;omega
   ·exact absurd rfl h1
  ·rcases h with ⟨h1,h2⟩|⟨h1,h2,h3,h4⟩
   ·have h1:E.w.heap.size≤c:=h1
    refine .inl ⟨Nat.le_trans hW.size h1,fun hl=>?_⟩;rcases hl with hl|hH
    ·rcases hlive2 c hl with ⟨k,c',g,he,hk,hkc⟩|⟨b,_,h3,h4⟩
     ·exact h2 (.inl ⟨k,hk,hkc⟩)
     ·obtain ⟨y,hy⟩:=Option.isSome_iff_exists.1 h3
      have:=hW.lt hy;omega
    ·have:=hHlt c hH;omega
   ·rcases h4 with h4|h4
    ·rw[hl] at h4;simp at h4
    ·rcases hokold 1 c h2 h4 with h5|h5
     ·exact .inl h5
     ·exact .inr ⟨h1,h5.2⟩
  ·have h1:E.w.heap.size≤(E'.m b).1:=by
    rcases hloc b x hg with h|⟨i,b0,rfl,hi,_⟩
    ·exact h
    ·obtain ⟨g,hgm⟩:=hid i b0 hi
     exact absurd rfl (backAt_none hbn _ hgm)
   refine .inl ⟨Nat.le_trans hW.size h1,fun hl=>?_⟩;rcases hl with hl|hH
   ·rcases hlive2 _ hl with ⟨k,c',g,he,hk,hkc⟩|⟨b2,_,h3,h4⟩
    ·have:=hW'.inj k b hk (by simp[hg]) hkc
     exact backAt_none hbn _ he this
    ·obtain ⟨y,hy⟩:=Option.isSome_iff_exists.1 h3
     have:=hW.lt hy;omega
   ·have:=hHlt _ hH;omega
 have hExt:Ext X E E2:=by
  refine ⟨Nat.le_succ _,fun b g hg hc=>?_,fun t c hc h=>⟨hokold t c hc h,hstill c hc (notA hW h)⟩⟩;have hc:hp'.cur b=some g:=hc;by_cases hp:∃ e∈pl,e.2.1=b
  ·obtain ⟨⟨k,c',g'⟩,he,hc'⟩:=hp
   simp at hc';subst hc';obtain ⟨x,y,q1,q2,q3⟩:=hat k c' g' he;rw[Heap.cur_of_get q3,backB_gen q2] at hc;simp at hc;subst hc;rcases hmem k c' g' he with ⟨i,rfl,hi,hgg⟩|⟨_,hgg⟩
   ·split at hgg
    ·rename_i hcur0
     obtain ⟨z,_,hz,_⟩:=hlive i c' hi;rw[Heap.cur_of_get hz] at hgg;simp at hgg;obtain ⟨p1,p2,p3⟩:=hx.cur (PB+i) 0 (Nat.lt_succ_self _) hcur0;have hmi:(calleeE E ids bs).m (PB+i)=E.m c':=calleeE_m hi;rw[hmi] at p2 p3;refine ⟨by rw[Heap.cur_of_get hz,hgg],?_,p3⟩;show m2 c'=E.m c';rw[hm2 _ _ _ he,p2]
    ·omega
   ·omega
  ·have hpn:∀ e∈pl,e.2.1≠b:=fun e he q=>hp ⟨e,he,q⟩
   have hgb:hp'.get b=E.h.get b:=hoth b hpn;have hc2:E.h.cur b=some g:=by
    unfold Heap.cur at hc ⊢;rw[← hgb];exact hc
   refine ⟨hc2,hm2' b hpn,fun cc e fr hcc=>⟨cc,e,fr,?_,rfl⟩⟩;show E'.w.heap[_]?=_;rw[hstill _ (Array.getElem?_eq_some_iff.1 hcc).1 ?_]
   ·exact hcc
   ·rintro ⟨b',hb',h3,h4⟩
    have hlb:(E.h.get b).isSome=true:=by
     unfold Heap.cur at hc2;cases hq:E.h.get b with
     |none=>simp[hq] at hc2
     |some _=>rfl
    have:=hW.inj b' b h3 hlb h4
    subst this;exact hnotin b' hpn hb'
 refine ⟨E2,rfl,rfl,rfl,?_,hExt,hsz,by rw[← hpl] at hBack;rw[← hpl];exact hBack⟩;refine ⟨fun b x hxx=>?_,fun b b' h1 h2 he=>?_,Nat.le_trans hW.size hsz,fun c hc hA=>?_,hW'.os.trans hW.os,hW'.tape.trans hW.tape,hW'.output.trans hW.output,hW.f1,hW.a0,fun c o hc=>by
  obtain ⟨g1,g2,g3⟩:=hW.hid c o hc;have hcs:c<E.w.heap.size:=(Array.getElem?_eq_some_iff.1 g1).1;refine ⟨by show E'.w.heap[c]?=_;rw[hstill c hcs (fun ⟨b,_,h3,h4⟩=>g3 ⟨b,h3,h4⟩)];exact g1,g2,fun hl=>?_⟩;rcases hlive2 c hl with ⟨k,c',g,he,hk,hkc⟩|⟨b,_,h3,h4⟩
  ·obtain ⟨x,hxx⟩:=Option.isSome_iff_exists.1 hk
   rcases hloc k x hxx with h5|⟨i,b,_,hib,h5⟩
   ·omega
   ·obtain ⟨y,_,hy,_⟩:=hlive i b hib
    exact g3 ⟨b,by simp[hy],by omega⟩
  ·exact g3 ⟨b,h3,h4⟩⟩
 ·have hxx:hp'.get b=some x:=hxx
  by_cases hp:∃ e∈pl,e.2.1=b
  ·obtain ⟨⟨k,c',g'⟩,he,hc'⟩:=hp
   simp at hc';subst hc';obtain ⟨x0,y,q1,q2,q3⟩:=hat k c' g' he;rw[q3] at hxx;simp at hxx;subst hxx;refine ⟨backB_sound hW' hBack (hm2 _ _ _ he) (hW'.blk k x0 q1).1 q2,?_,?_⟩
   ·rw[backB_gen q2]
    show g'<E.ct+1;rcases hmem k c' g' he with ⟨i,_,hi,hgg⟩|⟨_,hgg⟩
    ·rw[hgg]
     split
     ·obtain ⟨z,_,hz,_⟩:=hlive i c' hi
      rw[Heap.cur_of_get hz]
      have:=(hW.blk c' z hz).2.1
      simp;omega
     ·omega
    ·omega
   ·show X.w0.heap.size≤(m2 c').1∨X.A0 c' (m2 c').1
    rw[hm2 _ _ _ he];rcases hloc k x0 q1 with h5|⟨i,b0,hkk,hib,h5⟩
    ·exact .inl (Nat.le_trans hW.size h5)
    ·have:b0=c':=by
      obtain ⟨g,hg⟩:=hid i b0 hib;rw[← hkk] at hg;exact hku _ _ _ _ _ hg he
     subst this;obtain ⟨z,_,hz,_⟩:=hlive i b0 hib;rw[h5];exact (hW.blk b0 z hz).2.2
  ·have hpn:∀ e∈pl,e.2.1≠b:=fun e he q=>hp ⟨e,he,q⟩
   rw[hoth b hpn] at hxx;obtain ⟨q1,q2,q3⟩:=hW.blk b x hxx;have hmb:E2.m b=E.m b:=hm2' b hpn;refine ⟨q1.ext hExt hmb (hstill _ q1.get ?_),Nat.lt_of_lt_of_le q2 (Nat.le_succ _),by rw[hmb];exact q3⟩;rintro ⟨b',hb',h3,h4⟩
   have:=hW.inj b' b h3 (by simp[hxx]) h4
   subst this;exact hnotin b' hpn hb'
 ·have key:∀ b,(E2.h.get b).isSome=true→(∃ k g,(k,b,g)∈pl∧(E'.h.get k).isSome=true∧E2.m b=E'.m k)∨((∀ e∈pl,e.2.1≠b)∧(E.h.get b).isSome=true∧E2.m b=E.m b):=fun b h=>by
   have h:(hp'.get b).isSome=true:=h;by_cases hp:∃ e∈pl,e.2.1=b
   ·obtain ⟨⟨k,c',g'⟩,he,hc'⟩:=hp
    simp at hc';subst hc';obtain ⟨x0,y,q1,q2,q3⟩:=hat k c' g' he;exact .inl ⟨k,g',he,by simp[q1],hm2 _ _ _ he⟩
   ·have hpn:∀ e∈pl,e.2.1≠b:=fun e he q=>hp ⟨e,he,q⟩
    rw[hoth b hpn] at h;exact .inr ⟨hpn,h,hm2' b hpn⟩
  have cross:∀ k b g b2,(k,b,g)∈pl→(E'.h.get k).isSome=true→(∀ e∈pl,e.2.1≠b2)→(E.h.get b2).isSome=true→(E'.m k).1=(E.m b2).1→False:=fun k b g b2 he hk hp2 hb2 heq=>by
   obtain ⟨x0,hx0⟩:=Option.isSome_iff_exists.1 hk;obtain ⟨y,hy⟩:=Option.isSome_iff_exists.1 hb2;rcases hloc k x0 hx0 with h5|⟨i,b0,hkk,hib,h5⟩
   ·have:=hW.lt hy;omega
   ·obtain ⟨z,_,hz,_⟩:=hlive i b0 hib
    have:=hW.inj b0 b2 (by simp[hz]) hb2 (by omega)
    subst this;exact hnotin b0 hp2 (List.mem_of_getElem? hib)
  rcases key b h1 with ⟨k,g,he1,hk1,hm1⟩|⟨hp1,hb1,hm1⟩<;>rcases key b' h2 with ⟨k',g',he2,hk2,hmm2⟩|⟨hp2,hb2,hmm2⟩
  ·rw[hm1,hmm2] at he
   have:=hW'.inj k k' hk1 hk2 he
   subst this;exact hku _ _ _ _ _ he1 he2
  ·rw[hm1,hmm2] at he
   exact (cross k b g b' he1 hk1 hp2 hb2 he).elim
  ·rw[hm1,hmm2] at he
   exact (cross k' b' g' b he2 hk2 hp1 hb1 he.symm).elim
  ·rw[hm1,hmm2] at he
   exact hW.inj b b' hb1 hb2 he
 ·have hlt:=Nat.lt_of_lt_of_le hc hW.size
  show E'.w.heap[c]?=_;rw[hstill c hlt ?_]
  ·exact hW.still c hc hA
  ·rintro ⟨b,hb,h3,h4⟩
   obtain ⟨y,hy⟩:=Option.isSome_iff_exists.1 h3;rcases (hW.blk b y hy).2.2 with h5|h5
   ·omega
   ·rw[h4] at h5;exact hA ⟨b,h5⟩
end
end Go.Abs
