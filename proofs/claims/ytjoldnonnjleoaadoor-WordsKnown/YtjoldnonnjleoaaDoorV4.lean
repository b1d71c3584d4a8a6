/- The library V, part 4: what a pure operation yields. -/
import Derived.Test.YtjoldnonnjleoaaDoorV3
namespace Go.V
open Go Go.RowKit

def bad : Bool × AV := (false, .top)

def cut (T : TI) (cs : List AV) (o : Nat) : AV := if T.agg = true then .agg ((cs.drop o).take T.sz) else cs.getD o .top
def fitsAt (T : TI) (len o : Nat) : Bool := decide (o + T.sz ≤ len) && (T.agg || T.sz == 1)

def pLoad (P : Program) (H : List Blk) (t : TypeId) (p : AV) : Bool × AV :=
  match tinfo P t with
  | some T =>
    match p with
    | .ptr b i o h =>
      match H[b]? with
      | some (.row s _ es) => (decide (h = es.length) && decide (i < es.length) && fitsAt T s o, cut T (es.getD i []) o)
      | _ => bad
    | .iptr cs o => (fitsAt T cs.length o, cut T cs o)
    | _ => bad
  | none => bad

def fieldOf (P : Program) (s : TypeId) (f : Nat) : Option (Nat × TI) :=
  match tinfo P s with
  | some T =>
    match T.shape with
    | .struct fs =>
      match fs[f]? with
      | some (off, ft) => (tinfo P ft).map fun F => (off, F)
      | none => none
    | _ => none
  | none => none

def pFieldAddr (P : Program) (H : List Blk) (s : TypeId) (p : AV) (f : Nat) : Bool × AV :=
  match fieldOf P s f with
  | some (off, F) =>
    match p with
    | .ptr b i o h => (isLen H b h && F.sz != 0, .ptr b i (o + off) h)
    | .iptr cs o => (F.sz != 0, .iptr cs (o + off))
    | _ => bad
  | none => bad

def pField (P : Program) (s : TypeId) (p : AV) (f : Nat) : Bool × AV :=
  match fieldOf P s f with
  | some (off, F) =>
    match p with
    | .agg cs => (fitsAt F cs.length off, cut F cs off)
    | _ => bad
  | none => bad

def shp (P : Program) (t : TypeId) : Shape := ((tinfo P t).map (·.shape)).getD .other

def pIndexAddr (P : Program) (H : List Blk) (t : TypeId) (x i : AV) : Bool × AV :=
  match i with
  | .int _ n =>
    match shp P t with
    | .slice e =>
      match tinfo P e with
      | some T =>
        match x with
        | .sl s es _ => (decide (0 ≤ n) && decide (n < es.length) && s == T.sz, .iptr (es.getD n.toNat []) 0)
        | .own b m h _ =>
          match shOf H b with
          | some (s, cur) => (decide (h = cur) && decide (0 ≤ n) && decide (n < m) && s == T.sz, .ptr b n.toNat 0 h)
          | none => bad
        | _ => bad
      | none => bad
    | .array len e =>
      match tinfo P e with
      | some T =>
        match x with
        | .ptr b i o h => (isLen H b h && decide (0 ≤ n) && decide (n < len), .ptr b i (o + n.toNat * T.sz) h)
        | .iptr cs o => (decide (0 ≤ n) && decide (n < len), .iptr cs (o + n.toNat * T.sz))
        | _ => bad
      | none => bad
    | _ => bad
  | _ => bad

def pIndex (P : Program) (t : TypeId) (x i : AV) : Bool × AV :=
  match i with
  | .int _ n =>
    match shp P t, x with
    | .array len e, .agg cs =>
      match tinfo P e with
      | some T => (decide (0 ≤ n) && decide (n < len) && fitsAt T cs.length (n.toNat * T.sz), cut T cs (n.toNat * T.sz))
      | none => bad
    | .str, .str l => (decide (0 ≤ n) && decide (n < l.length), .int .u8 (l.getD n.toNat 0).toNat)
    | _, _ => bad
  | _ => bad

/-- A type whose values are compared cell by cell (closed: the kernel reckons it). -/
def eqTy (P : Program) : Nat → TypeId → Bool
  | 0, _ => false
  | d + 1, t =>
    match P.underlying t with
    | some (.int _) | some .bool | some .string => true
    | some (.struct fs) => !P.stoodInHeld t && fs.toList.all fun f => f.name != "_" && eqTy P d f.type
    | some (.array _ e) => eqTy P d e
    | _ => false
def eqTyOk (P : Program) (t : TypeId) : Bool := eqTy P 8 t && !P.eqGuardType P.depth t

def eqPair (F : Option TI) (cs ds : List AV) (off : Nat) (eq : TI → Bool × Bool) (r : Bool × Bool) : Bool × Bool :=
  match F with
  | some F => (fitsAt F cs.length off && fitsAt F ds.length off && (eq F).1 && r.1, (eq F).2 && r.2)
  | none => (false, false)
def eqA (P : Program) : Nat → TypeId → AV → AV → Bool × Bool
  | 0, _, _, _ => (false, false)
  | d + 1, t, x, y =>
    match shp P t, x, y with
    | .int _, .int k a, .int k' b => (k == k', decide (a = b))
    | .bool, .bool a, .bool b => (true, a == b)
    | .str, .str a, .str b => (true, decide (a = b))
    | .struct fs, .agg cs, .agg ds => fs.foldr (fun f r => eqPair (tinfo P f.2) cs ds f.1 (fun F => eqA P d f.2 (cut F cs f.1) (cut F ds f.1)) r) (true, true)
    | .array n e, .agg cs, .agg ds =>
      match tinfo P e with
      | some F => (List.range n).foldr (fun i r => eqPair (some F) cs ds (i * F.sz) (fun F => eqA P d e (cut F cs (i * F.sz)) (cut F ds (i * F.sz))) r) (true, true)
      | none => (false, false)
    | _, _, _ => (false, false)

def pInt (op : BinOp) (k k' : IntKind) (a b : Int) : Bool × AV :=
  match op with
  | .add => (k == k', .int k (k.wrap (a + b)))
  | .sub => (k == k', .int k (k.wrap (a - b)))
  | .mul => (k == k', .int k (k.wrap (a * b)))
  | .quo => (k == k' && b != 0, .int k (k.wrap (a.tdiv b)))
  | .rem => (k == k' && b != 0, .int k (a.tmod b))
  | .and | .or | .xor | .andNot => (k == k', .int k (bits op k a b))
  | .shl => (decide (0 ≤ b), .int k (k.wrap (a * 2 ^ (min b.toNat k.bits))))
  | .shr => (decide (0 ≤ b), .int k (a.fdiv (2 ^ (min b.toNat k.bits))))
  | .eql => (k == k', .bool (decide (a = b)))
  | .neq => (k == k', .bool (!decide (a = b)))
  | .lss => (k == k', .bool (decide (a < b)))
  | .leq => (k == k', .bool (decide (a ≤ b)))
  | .gtr => (k == k', .bool (decide (b < a)))
  | .geq => (k == k', .bool (decide (b ≤ a)))

def pStr (op : BinOp) (a b : List UInt8) : Bool × AV :=
  match op with
  | .add => (decide (a.length + b.length ≤ maxLen), .str (a ++ b))
  | .eql => (true, .bool (decide (a = b)))
  | .neq => (true, .bool (!decide (a = b)))
  | .lss => (true, .bool (Op.bytesLess a b))
  | .leq => (true, .bool (Op.bytesLess a b || decide (a = b)))
  | .gtr => (true, .bool (!(Op.bytesLess a b || decide (a = b))))
  | .geq => (true, .bool (!Op.bytesLess a b))
  | _ => bad

def pBin (P : Program) (op : BinOp) (t : TypeId) (x y : AV) : Bool × AV :=
  match x, y with
  | .int k a, .int k' b => pInt op k k' a b
  | .str a, .str b => pStr op a b
  | .bool a, .bool b =>
    match op with
    | .eql => ((match shp P t with | .bool => true | _ => false), .bool (a == b))
    | .neq => ((match shp P t with | .bool => true | _ => false), .bool (!(a == b)))
    | _ => bad
  | .agg xs, .agg ys =>
    match op with
    | .eql => (eqTyOk P t && (eqA P 8 t (.agg xs) (.agg ys)).1, .bool (eqA P 8 t (.agg xs) (.agg ys)).2)
    | .neq => (eqTyOk P t && (eqA P 8 t (.agg xs) (.agg ys)).1, .bool (!(eqA P 8 t (.agg xs) (.agg ys)).2))
    | _ => bad
  | _, _ => bad

def pUn (op : UnOp) (x : AV) : Bool × AV :=
  match op, x with
  | .not, .bool b => (true, .bool (!b))
  | .neg, .int k n => (true, .int k (k.wrap (0 - n)))
  | .xor, .int k n => (true, .int k (bits .xor k (if k.signed then -1 else k.max) n))
  | _, _ => bad

def pConvert (P : Program) (src dst : TypeId) (x : AV) : Bool × AV :=
  match shp P dst, x with
  | .int k, .int _ n => ((tinfo P src).isSome, .int k (k.wrap n))
  | .str, .str s => ((tinfo P src).isSome, .str s)
  | _, _ => bad

def isLow (x : Option AV) : Option Int :=
  match x with
  | none => some 0
  | some (.int _ n) => some n
  | _ => none

def isHigh (x : Option AV) (d : Nat) : Option Int :=
  match x with
  | none => some d
  | some (.int _ n) => some n
  | _ => none

def pSlice (P : Program) (H : List Blk) (t : TypeId) (x : AV) (lo hi mx : Option AV) : Bool × AV :=
  match isLow lo with
  | none => bad
  | some l =>
    match shp P t, x with
    | .slice e, .sl s es c =>
      match tinfo P e with
      | some T =>
        match isHigh hi es.length with
        | none => bad
        | some h =>
          match mx with
          | none => ((es.isEmpty || s == T.sz) && decide (0 ≤ l) && decide (l ≤ h) && decide (h ≤ es.length), .sl s ((es.take h.toNat).drop l.toNat) (c.map (· - l.toNat)))
          | some (.int _ m) => (hi.isSome && (es.isEmpty || s == T.sz) && decide (0 ≤ l) && decide (l ≤ h) && decide (h ≤ es.length) && decide (h ≤ m) && decide (m ≤ es.length), .sl s ((es.take h.toNat).drop l.toNat) (some (m.toNat - l.toNat)))
          | _ => bad
      | none => bad
    | .slice e, .own b n h0 c =>
      match tinfo P e with
      | some _ =>
        match isHigh hi n with
        | none => bad
        | some h =>
          match mx with
          | none => (isLen H b h0 && decide (l = 0) && decide (0 ≤ h) && decide (h ≤ n), .own b h.toNat h0 c)
          | some (.int _ m) => (hi.isSome && isLen H b h0 && decide (l = 0) && decide (0 ≤ h) && decide (h ≤ m) && decide (m ≤ n), .own b h.toNat h0 (some m.toNat))
          | _ => bad
      | none => bad
    | .str, .str s =>
      match mx with
      | none =>
        match isHigh hi s.length with
        | none => bad
        | some h => (decide (0 ≤ l) && decide (l ≤ h) && decide (h ≤ s.length), .str ((s.take h.toNat).drop l.toNat))
      | _ => bad
    | _, _ => bad

/-- The parts of a composite value laid over its zero cells. -/
def fillA (H : List Blk) (place : Nat → Option (Nat × Nat)) (cells : List AV) : List (Nat × AV) → Option (List AV)
  | [] => some cells
  | (i, v) :: rest =>
    match place i, v.cells? H with
    | some (off, size), some cs =>
      if cs.length = size ∧ off + cs.length ≤ cells.length then fillA H place (cells.take off ++ cs ++ cells.drop (off + cs.length)) rest else none
    | _, _ => none

def structPlaces (P : Program) (fs : List (Nat × TypeId)) : Option (List (Nat × Nat)) := fs.mapM fun f => (tinfo P f.2).map fun T => (f.1, T.sz)

def pBuild (P : Program) (H : List Blk) (t : TypeId) (parts : List (Nat × AV)) : Bool × AV :=
  match tinfo P t with
  | some T =>
    match T.shape with
    | .struct fs =>
      match structPlaces P fs with
      | some ps =>
        match fillA H (fun i => ps[i]?) T.zero parts with
        | some cs => (true, .agg cs)
        | none => bad
      | none => bad
    | .array _ e =>
      match tinfo P e with
      | some E =>
        match fillA H (fun i => some (i * E.sz, E.sz)) T.zero parts with
        | some cs => (true, .agg cs)
        | none => bad
      | none => bad
    | _ => bad
  | none => bad

def chunks (s : Nat) : Nat → List AV → List (List AV)
  | 0, _ => []
  | n + 1, cs => cs.take s :: chunks s n (cs.drop s)

def pBuildSlice (P : Program) (H : List Blk) (t : TypeId) (len : Nat) (parts : List (Nat × AV)) : Bool × AV :=
  match shp P t with
  | .slice e =>
    match tinfo P e with
    | some E =>
      match fillA H (fun i => some (i * E.sz, E.sz)) ((List.replicate len E.zero).flatten) parts with
      | some cs => (decide (len ≤ 16777216) && decide (len * E.sz ≤ 16777216) && E.zero.length == E.sz, .sl (match len with | 0 => 0 | _ + 1 => E.sz) (chunks E.sz len cs) (some len))
      | none => bad
    | none => bad
  | _ => bad

def pLen (P : Program) (H : List Blk) (t : TypeId) (x : AV) : Bool × AV :=
  match shp P t, x with
  | .str, .str s => (true, .int .i64 s.length)
  | .slice _, .sl _ es _ => (true, .int .i64 es.length)
  | .slice _, .own b n h _ => (isLen H b h, .int .i64 n)
  | .array n _, _ => (true, .int .i64 n)
  | _, _ => bad
def pCap (P : Program) (H : List Blk) (t : TypeId) (x : AV) : Bool × AV :=
  match shp P t, x with
  | .slice _, .sl _ _ (some c) => (true, .int .i64 c)
  | .slice _, .own b _ h (some c) => (isLen H b h, .int .i64 c)
  | _, _ => bad
def pMinMax (mx : Bool) (x y : AV) : Bool × AV :=
  match x, y with
  | .int k a, .int _ b => (true, .int k (if mx = true then (if b > a then b else a) else (if b < a then b else a)))
  | _, _ => bad

def AV.all (l : List AV) : Bool := l.all AV.ok

/-- A comparison with the constant nil. -/
def nilTest (op : BinOp) (y : Operand) : Option (Bool × Value) :=
  match y with
  | .const (.slice none 0 0) => match op with | .eql => some (false, .slice none 0 0) | .neq => some (true, .slice none 0 0) | _ => none
  | .const .nilIface => match op with | .eql => some (false, .nilIface) | .neq => some (true, .nilIface) | _ => none
  | .const (.pointer none) => match op with | .eql => some (false, .pointer none) | .neq => some (true, .pointer none) | _ => none
  | .const (.map none) => match op with | .eql => some (false, .map none) | .neq => some (true, .map none) | _ => none
  | .const .nilFunc => match op with | .eql => some (false, .nilFunc) | .neq => some (true, .nilFunc) | _ => none
  | _ => none
def pNil (P : Program) (H : List Blk) (neg : Bool) (t : TypeId) (x : AV) (v : Value) : Bool × AV :=
  match shp P t, x, v with
  | .slice _, .sl _ es _, .slice none 0 0 => (true, match es with | [] => .anyb | _ :: _ => .bool neg)
  | .slice _, .own b n h _, .slice none 0 0 => (isLen H b h, match n with | 0 => .anyb | _ + 1 => .bool neg)
  | .iface, .err, .nilIface => (true, .bool neg)
  | .iface, .lit .nilIface, .nilIface => (true, .bool (!neg))
  | .ptr _, .ptr b _ _ h, .pointer none => (isLen H b h, .bool neg)
  | .ptr _, .iptr _ _, .pointer none => (true, .bool neg)
  | .ptr _, .lit (.pointer none), .pointer none => (true, .bool (!neg))
  | .map _ _, .mp _, .map none => (true, .bool neg)
  | .map _ _, .lit (.map none), .map none => (true, .bool (!neg))
  | .func, .fn _ _, .nilFunc => (true, .bool neg)
  | .func, .lit .nilFunc, .nilFunc => (true, .bool (!neg))
  | _, _, _ => bad

/-- A pure operation: whether it goes through, and what it yields. -/
def pstep (P : Program) (o : Op) (ρ : Operand → AV) (H : List Blk) : Bool × AV :=
  let on (x : Operand) (r : Bool × AV) : Bool × AV := ((ρ x).ok && r.1, r.2)
  match o with
  | .move x | .assign x => ((ρ x).ok, (ρ x).strip)
  | .pick c x y =>
    match (ρ c).strip with
    | .bool b => ((ρ c).ok && (bif b then (ρ x).ok else (ρ y).ok), AV.ite b (ρ x).strip (ρ y).strip)
    | _ => bad
  | .load t p => on p (pLoad P H t (ρ p).strip)
  | .nilCheck x =>
    match (ρ x).strip with
    | .ptr b i o h => ((ρ x).ok && isLen H b h, .ptr b i o h)
    | .iptr cs o => ((ρ x).ok, .iptr cs o)
    | .fn f c => ((ρ x).ok, .fn f c)
    | _ => bad
  | .fieldAddr s x f => on x (pFieldAddr P H s (ρ x).strip f)
  | .field s x f => on x (pField P s (ρ x).strip f)
  | .indexAddr t x i => on x (on i (pIndexAddr P H t (ρ x).strip (ρ i).strip))
  | .index t x i => on x (on i (pIndex P t (ρ x).strip (ρ i).strip))
  | .binOp op t x y _ =>
    match nilTest op y with
    | some (neg, v) => on x (pNil P H neg t (ρ x).strip v)
    | none => on x (on y (pBin P op t (ρ x).strip (ρ y).strip))
  | .unOp op _ x => on x (pUn op (ρ x).strip)
  | .convert src dst x => on x (pConvert P src dst (ρ x).strip)
  | .extract x i =>
    match (ρ x).strip with
    | .tup vs => match vs[i]? with | some v => ((ρ x).ok, v) | none => bad
    | _ => bad
  | .slice t x lo hi mx =>
    ((ρ x).ok && (lo.all fun y => (ρ y).ok) && (hi.all fun y => (ρ y).ok) && (mx.all fun y => (ρ y).ok) && (pSlice P H t (ρ x).strip (lo.map fun y => (ρ y).strip) (hi.map fun y => (ρ y).strip) (mx.map fun y => (ρ y).strip)).1,
     (pSlice P H t (ρ x).strip (lo.map fun y => (ρ y).strip) (hi.map fun y => (ρ y).strip) (mx.map fun y => (ρ y).strip)).2)
  | .build t parts =>
    ((parts.toList.all fun p => (ρ p.2).ok) && (pBuild P H t (parts.toList.map fun p => (p.1, (ρ p.2).strip))).1, (pBuild P H t (parts.toList.map fun p => (p.1, (ρ p.2).strip))).2)
  | .buildSlice t len parts =>
    ((parts.toList.all fun p => (ρ p.2).ok) && (pBuildSlice P H t len (parts.toList.map fun p => (p.1, (ρ p.2).strip))).1, (pBuildSlice P H t len (parts.toList.map fun p => (p.1, (ρ p.2).strip))).2)
  | .makeFunc (.func f) first captured =>
    (first.isEmpty && (captured.toList.all fun x => (ρ x).ok), .fn f (captured.toList.map fun x => (ρ x).strip))
  | .call { callee := .builtin .len, args, argTypes } =>
    match args.toList, argTypes.toList with
    | [x], t :: _ => on x (pLen P H t (ρ x).strip)
    | _, _ => bad
  | .call { callee := .builtin .cap, args, argTypes } =>
    match args.toList, argTypes.toList with
    | [x], t :: _ => on x (pCap P H t (ρ x).strip)
    | _, _ => bad
  | .call { callee := .builtin .max, args, .. } =>
    match args.toList with
    | [x, y] => on x (on y (pMinMax true (ρ x).strip (ρ y).strip))
    | _ => bad
  | .call { callee := .builtin .min, args, .. } =>
    match args.toList with
    | [x, y] => on x (on y (pMinMax false (ρ x).strip (ρ y).strip))
    | _ => bad
  | _ => bad
end Go.V
