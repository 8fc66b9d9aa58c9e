/- What is proved: What a region's operations do, said of values without addresses: a proposition that simp works out. Conditions: those that stand in the statements. -/
import Derived.Test.YtbfgdblebepgcaaDoorZVal
set_option linter.unusedSimpArgs false
set_option linter.unusedVariables false
namespace Go.Proofs.YtbfgdblebepgcaaDoor
open Go.RowKit

abbrev Env := Nat → VV
def upd (env : Env) (t : Nat) (x : VV) : Env := fun u => if u = t then x else env u
def put (N : Nat) (env : Env) (d : Option Tmp) (x : VV) : Env :=
  match d with
  | none => env
  | some t => if t < N then upd env t x else env
def rd (env : Env) : Operand → VV
  | .tmp t => env t
  | .const v => cv v
  | .global g => .raw (.pointer (some ⟨g, 0, none⟩))
  | .func f => .fn f []

inductive QK where
  | bool
  | int (k : IntKind)
  | str
  | slice (e : TypeId)
  | map (k e : TypeId)
  | struct
  | array (n : Nat) (e : TypeId)
  | ptr
  | iface
  | func
  | other
def qkOf : TypeDesc → QK
  | .bool => .bool
  | .int k => .int k
  | .string => .str
  | .slice e => .slice e
  | .map k e => .map k e
  | .struct _ => .struct
  | .array n e => .array n e
  | .pointer _ => .ptr
  | .interface _ => .iface
  | .func _ _ _ => .func
  | _ => .other
def QK.agg : QK → Bool
  | .struct => true
  | .array _ _ => true
  | _ => false
def QK.isStr : QK → Bool
  | .str => true
  | _ => false
/-- A string's bytes, as the cells of a slice. -/
def bytesV (l : List UInt8) : List (List VV) := l.map fun c => [.int .u8 (c.toNat : Int)]
structure QI where
  k : QK
  sz : Nat
  bt : Nat
  zok : Bool
  z : List VV
def notTup : Value → Bool
  | .tuple _ => false
  | _ => true
/-- What is asked of a type: its kind, its cells, its bytes, its zero. -/
def qi (P : Program) (T : TypeId) : QI :=
  match P.underlying T, P.info? T with
  | some d, some i =>
    match i.zero with
    | some z => ⟨qkOf d, i.size, i.bytes, z.cells.size == i.size && z.cells.all Value.oneCell' && (qkOf d).agg == !z.oneCell' && decide (0 < i.size) && notTup z, z.cells.toList.map cv⟩
    | none => ⟨qkOf d, i.size, i.bytes, false, []⟩
  | _, _ => ⟨.other, 0, 0, false, []⟩
/-- That a type is a struct whose fields' types are known. -/
def fok (P : Program) (T : TypeId) : Bool :=
  match P.underlying T with
  | some (.struct fs) => fs.all fun f => (P.info? f.type).isSome
  | _ => false
/-- Of a struct's field: where it lies, its cells, whether it is a struct itself. -/
def qf (P : Program) (T : TypeId) (j : Nat) : Option (Nat × Nat × Bool) :=
  match P.underlying T with
  | some (.struct fs) =>
    match fs[j]? with
    | some f =>
      match P.underlying f.type, P.info? f.type with
      | some d, some i => if i.size = 0 then none else some (f.offset, i.size, (qkOf d).agg)
      | _, _ => none
    | none => none
  | _ => none

/-- That a type is a pointer to what has cells. -/
def pok (P : Program) (T : TypeId) : Bool :=
  match P.underlying T with
  | some (.pointer te) => match P.info? te with | some j => j.size != 0 | none => false
  | _ => false
/-- May objects of a struct be held against each other, field by field? The kinds of its fields, if all of them are plain. -/
def cmpK : QK → Bool
  | .bool => true
  | .int _ => true
  | .str => true
  | _ => false
def flatF (P : Program) : Nat → List Field → Bool
  | _, [] => true
  | i, f :: fs => f.name != "_" && f.offset == i && cmpK (qi P f.type).k && flatF P (i + 1) fs
def ek (P : Program) (T : TypeId) : Option (List QK) :=
  match P.underlying T with
  | some (.struct fs) => if (!P.stoodInHeld T && !P.eqGuardType P.depth T && flatF P 0 fs.toList) = true then some (fs.toList.map fun f => (qi P f.type).k) else none
  | _ => none
def eq1 : QK → VV → VV → Option Bool
  | .int _, .int p a, .int q b => if p = q then some (decide (a = b)) else none
  | .str, .str a, .str b => some (decide (a = b))
  | .bool, .bool a, .bool b => some (a == b)
  | _, _, _ => none
def eqF : List QK → List VV → List VV → Option Bool
  | [], [], [] => some true
  | k :: ks, x :: xs, y :: ys => (eq1 k x y).bind fun r => (eqF ks xs ys).map (r && ·)
  | _, _, _ => none
def vagq (P : Program) (T : TypeId) (xs ys : List VV) : Option Bool := (ek P T).bind fun ks => eqF ks xs ys
/-- A pointer to *T turned into an unsafe.Pointer, and back: into an object of so many cells. -/
def cvok (P : Program) (src dst T : TypeId) (n off : Nat) : Bool :=
  match P.underlying src, P.underlying dst with
  | some (.pointer t), some .unsafePointer => (match P.info? t with | some j => j.size != 0 | none => false) && decide (off < n)
  | some .unsafePointer, some (.pointer u) => (P.info? u).isSome && liesAt P P.depth T (n / P.cellsOf T) off u 1
  | _, _ => false

inductive SEnd where
  | ret (x : VV)
  | panic (x : VV)
def RE (G : Gh) : Ending → SEnd → Prop
  | .returned v, .ret x => R G v x
  | .panicked ch, .panic x => ∃ v, ch = [{ v := v, recovered := false }] ∧ R G v x
  | _, _ => False
def RL (G : Gh) (vs : Array Value) (xs : List VV) : Prop := vs.size = xs.length ∧ ∀ (j : Nat) (v : Value) (y : VV), vs[j]? = some v → xs[j]? = some y → R G v y

/-- A call's contract. -/
def SCalls (P : Program) (f : FuncId) (xs : List VV) (s : St) (Q : SEnd → St → Prop) : Prop :=
  ∀ (w0 : World) (G : Gh) (w : World) (vs : Array Value), Sim w0 G w s → RL G vs xs →
    Calls P f vs w fun e w' => ∃ (G' : Gh) (s' : St) (x : SEnd), G.le G' ∧ Sim w0 G' w' s' ∧ RE G' e x ∧ Q x s'

/-- That a function can be entered. -/
def Callable (P : Program) (f : FuncId) : Prop := ∀ (args : Array Value) (w : World), (callFunc f args).run P w = .ok (.enter f args) w

/-- A function without a Go body, done by the model itself. -/
def SExt (P : Program) (f : FuncId) (xs : List VV) (s : St) (Q : SEnd → St → Prop) : Prop :=
  ∀ (w0 : World) (G : Gh) (w : World) (vs : Array Value), Sim w0 G w s → RL G vs xs →
    ∃ (v : Value) (w' : World) (G' : Gh) (s' : St) (y : VV), (callFunc f vs).run P w = .ok (.value v) w' ∧ G.le G' ∧ Sim w0 G' w' s' ∧ R G' v y ∧ Q (.ret y) s'
def SCallx (P : Program) (f : FuncId) (xs : List VV) (s : St) (Q : SEnd → St → Prop) : Prop := (Callable P f ∧ SCalls P f xs s Q) ∨ SExt P f xs s Q

def splice {α : Type} (cs : List α) (off : Nat) (xs : List α) : List α := cs.take off ++ xs ++ cs.drop (off + xs.length)
def partOf (cs : List VV) (off sz : Nat) (agg : Bool) : Option VV :=
  if off + sz ≤ cs.length then (if agg then some (.agg ((cs.drop off).take sz)) else if sz = 1 then cs[off]? else none) else none
/-- A block that is new: nothing lies there, and all that is seen lies below. -/
def New (s : St) (b : Nat) : Prop := s b = .free ∧ ∀ x, s x ≠ .free → x < b
theorem New.free {s : St} {b : Nat} (h : New s b) : s b = .free := h.1
def vload (q : QI) (a : VV) (s : St) : Option VV :=
  match a with
  | .eptr cs => partOf cs 0 q.sz q.k.agg
  | .ptr b off =>
    match s b with
    | .obj _ xs => partOf xs off q.sz q.k.agg
    | .pk _ xs _ => partOf xs off q.sz q.k.agg
    | _ => none
  | _ => none
/-- The packed lists of an object that a store leaves alone. -/
def keepR (off n : Nat) (rs : List (Nat × TypeId × Nat)) : List (Nat × TypeId × Nat) := rs.filter fun r => decide (r.1 < off) || decide (off + n ≤ r.1)
def vstore (q : QI) (a x : VV) (s : St) : Option St :=
  match a with
  | .ptr b off =>
    match s b with
    | .obj T xs => if x.cells.length = q.sz ∧ 0 < q.sz ∧ off + q.sz ≤ xs.length ∧ x.cells.all VV.one = true then some (s.set b (.obj T (splice xs off x.cells))) else none
    | .pk T xs rs => if x.cells.length = q.sz ∧ 0 < q.sz ∧ off + q.sz ≤ xs.length ∧ x.cells.all VV.one = true then some (s.set b (.pk T (splice xs off x.cells) (keepR off q.sz rs))) else none
    | _ => none
  | _ => none
def vfill (P : Program) (T : TypeId) (cs : List VV) : List (Nat × VV) → Option (List VV)
  | [] => some cs
  | (j, x) :: rest =>
    match qf P T j with
    | some (off, sz, _) => if x.cells.length = sz ∧ off + sz ≤ cs.length ∧ x.cells.all VV.one = true then vfill P T (splice cs off x.cells) rest else none
    | none => none
def vrow (sz : Nat) : Nat → List (Nat × VV) → Option (List (List VV))
  | _, [] => some []
  | i, (j, x) :: rest => if j = i ∧ x.cells.length = sz ∧ x.cells.all VV.one = true then (vrow sz (i + 1) rest).map (x.cells :: ·) else none
def vidx (q : QI) (sz : Nat) (x i : VV) : Option VV :=
  match q.k, x, i with
  | .slice _, .lst xs _, .int _ n => if 0 ≤ n then (xs[n.toNat]?).bind fun cs => if cs.length = sz ∧ 0 < sz then some (.eptr cs) else none else none
  | _, _, _ => none
def vat (q : QI) (x i : VV) : Option VV :=
  match q.k, x, i with
  | .str, .str l, .int _ n => if 0 ≤ n then (l[n.toNat]?).map fun c => .int .u8 (c.toNat : Int) else none
  | _, _, _ => none
def vbound (x : Option VV) (dflt : Nat) : Option Nat :=
  match x with
  | none => some dflt
  | some (.int _ n) => if 0 ≤ n then some n.toNat else none
  | some _ => none
def vslice (q qe : QI) (x : VV) (lo hi : Option VV) : Option VV :=
  match q.k, x with
  | .str, .str l =>
    match vbound lo 0, vbound hi l.length with
    | some a, some b => if a ≤ b ∧ b ≤ l.length then some (.str ((l.take b).drop a)) else none
    | _, _ => none
  | .slice _, .lst xs _ =>
    match vbound lo 0, vbound hi xs.length with
    | some a, some b => if a ≤ b ∧ b ≤ xs.length ∧ 0 < qe.sz ∧ (∀ x, x ∈ xs → x.length = qe.sz) then some (.lst ((xs.take b).drop a) .no) else none
    | _, _ => none
  | _, _ => none
def bAnd (k : IntKind) (a b : Int) : Int := k.wrap ((BitVec.ofInt k.bits a &&& BitVec.ofInt k.bits b).toNat : Int)
def bOr (k : IntKind) (a b : Int) : Int := k.wrap ((BitVec.ofInt k.bits a ||| BitVec.ofInt k.bits b).toNat : Int)
def bXor (k : IntKind) (a b : Int) : Int := k.wrap ((BitVec.ofInt k.bits a ^^^ BitVec.ofInt k.bits b).toNat : Int)
def bAndNot (k : IntKind) (a b : Int) : Int := k.wrap ((BitVec.ofInt k.bits a &&& ~~~ BitVec.ofInt k.bits b).toNat : Int)
def isSh : BinOp → Bool
  | .shl => true
  | .shr => true
  | _ => false
def vint (op : BinOp) (k : IntKind) (a b : Int) : Option VV :=
  match op with
  | .quo => if b ≠ 0 then some (.int k (k.wrap (a.tdiv b))) else none
  | .rem => if b ≠ 0 then some (.int k (a.tmod b)) else none
  | .and => some (.int k (bAnd k a b))
  | .or => some (.int k (bOr k a b))
  | .xor => some (.int k (bXor k a b))
  | .andNot => some (.int k (bAndNot k a b))
  | .shl => if 0 ≤ b then some (.int k (k.wrap (a * 2 ^ (min b.toNat k.bits)))) else none
  | .shr => if 0 ≤ b then some (.int k (a.fdiv (2 ^ (min b.toNat k.bits)))) else none
  | .add => some (.int k (k.wrap (a + b)))
  | .sub => some (.int k (k.wrap (a - b)))
  | .mul => some (.int k (k.wrap (a * b)))
  | .eql => some (.bool (decide (a = b)))
  | .neq => some (.bool !(decide (a = b)))
  | .lss => some (.bool (decide (a < b)))
  | .leq => some (.bool (decide (a ≤ b)))
  | .gtr => some (.bool (decide (b < a)))
  | .geq => some (.bool (decide (b ≤ a)))
/-- A literal's own row: none where it holds nothing. -/
def ownLit : Nat → Own
  | 0 => .no
  | _ + 1 => .full
/-- Bytes out of the cells of a slice of them. -/
def unbytes : List (List VV) → Option (List UInt8)
  | [] => some []
  | [.int .u8 n] :: r => if 0 ≤ n ∧ n < 256 then (unbytes r).map (UInt8.ofNat n.toNat :: ·) else none
  | _ => none
def isU8 : QK → Bool
  | .int .u8 => true
  | _ => false
def vconv (P : Program) (src dst : TypeId) (x : VV) (s : St) : Option VV :=
  match x with
  | .lst xs _ => match (qi P src).k, (qi P dst).k with | .slice e, .str => if isU8 (qi P e).k = true then (unbytes xs).map .str else none | _, _ => none
  | .int _ n => match (qi P src).k, (qi P dst).k with | .int _, .int k' => some (.int k' (k'.wrap n)) | _, _ => none
  | .ptr b off => match s b with | .obj T xs => if cvok P src dst T xs.length off = true then some (.ptr b off) else none | _ => none
  | _ => none
def vlen (q : QI) (x : VV) (s : St) : Option VV :=
  match q.k, x with
  | .str, .str l => some (.int .i64 l.length)
  | .slice _, .lst xs _ => some (.int .i64 xs.length)
  | .map _ _, .mp b =>
    match s b with
    | .map es => some (.int .i64 es.length)
    | _ => none
  | _, _ => none
def vminmax (mx : Bool) (x y : VV) : Option VV :=
  match x, y with
  | .int k a, .int k' b => if k = k' then some (.int k (if mx then (if a < b then b else a) else (if b < a then b else a))) else none
  | _, _ => none
def keyEq (a b : VV) : Option Bool :=
  match a, b with
  | .str x, .str y => some (decide (x = y))
  | .int k x, .int k' y => if k = k' then some (decide (x = y)) else none
  | _, _ => none
def mget (k : VV) : List (VV × VV) → Option (Option VV)
  | [] => some none
  | e :: r =>
    match keyEq k e.1 with
    | some true => some (some e.2)
    | some false => mget k r
    | none => none
def mput (k x : VV) : List (VV × VV) → Option (List (VV × VV))
  | [] => some [(k, x)]
  | e :: r =>
    match keyEq k e.1 with
    | some true => some ((k, x) :: r)
    | some false => (mput k x r).map (e :: ·)
    | none => none
def vzero (q : QI) : Option VV := if q.zok then (if q.k.agg then some (.agg q.z) else q.z[0]?) else none
def kfit (k : QK) (x : VV) : Bool :=
  match k, x with
  | .str, .str _ => true
  | .int _, .int _ _ => true
  | _, _ => false
def vlookup (q : QI) (qe : QI) (qk : QI) (m k : VV) (ok : Bool) (s : St) : Option VV :=
  match q.k, m with
  | .map _ _, .mp b =>
    match s b, kfit qk.k k with
    | .map es, true =>
      match mget k es with
      | some (some x) => some (if ok then .tup [x, .bool true] else x)
      | some none => (vzero qe).map fun z => if ok then .tup [z, .bool false] else z
      | none => none
    | _, _ => none
  | _, _ => none
def vupdate (q : QI) (qk : QI) (m k x : VV) (s : St) : Option St :=
  match q.k, m with
  | .map _ _, .mp b =>
    match s b, kfit qk.k k with
    | .map es, true => (mput k x es).map fun es' => s.set b (.map es')
    | _, _ => none
  | _, _ => none

section
variable (P : Program) (N : Nat) (all : List Oper) (K : Env → St → Prop) (E : VV → Env → St → Prop)

def elemT (q : QI) : TypeId := match q.k with | .slice e => e | .array _ e => e | .map _ e => e | _ => 0
def keyT (q : QI) : TypeId := match q.k with | .map k _ => k | _ => 0

/-- What 'append' comes to: a row of the call's own goes on; one that is full, or nil, is made anew. -/
def vappend (k : VV → St → Prop) (e : TypeId) (q : QI) (xs ys : List (List VV)) (o : Own) (s : St) : Prop :=
  (xs.length + ys.length) * q.bt ≤ 140737488355328 ∧ xs.length + ys.length ≤ 9223372036854775807 ∧ (∀ y, y ∈ ys → y.length = q.sz) ∧ q.zok = true ∧
  match o with
  | .no => False
  | .full => (∀ x, x ∈ xs → x.length = q.sz) ∧ (ys = [] → k (.lst xs .full) s) ∧
      (ys ≠ [] → ∀ b, s b = .free → k (.lst (xs ++ ys) (.at_ b)) (s.set b (.vec e q.sz (xs.length + ys.length))))
  | .at_ b => s b = .vec e q.sz xs.length ∧ ∀ b', b' = b ∨ s b' = .free → k (.lst (xs ++ ys) (.at_ b')) ((s.set b .free).set b' (.vec e q.sz (xs.length + ys.length)))

def vcall (d : Option Tmp) (rest : Env → St → Prop) (env : Env) (s : St) (f : VV) (xs : List VV) : Prop :=
  ∃ (g : FuncId) (caps : List VV) (Q : SEnd → St → Prop), f = .fn g caps ∧ SCallx P g (xs ++ caps) s Q ∧
    (∀ x s', Q (.ret x) s' → rest (put N env d x) s') ∧ (∀ x s', Q (.panic x) s' → E x env s')

def optB {α : Type} (k : α → Prop) : Option α → Prop
  | some x => k x
  | none => False

def _root_.Go.Operand.isConst : Operand → Bool
  | .const _ => true
  | _ => false
/-- Is a value that may be nil nil? Asked by a comparison with a nil constant. -/
def nilB : QK → VV → VV → Option Bool
  | .iface, .iface _ _, .raw .nilIface => some false
  | .iface, .raw .nilIface, .raw .nilIface => some true
  | .ptr, .ptr _ _, .raw (.pointer none) => some false
  | .ptr, .eptr _, .raw (.pointer none) => some false
  | .ptr, .raw (.pointer none), .raw (.pointer none) => some true
  | _, _, _ => none

/-- One operation. -/
def vstep (o : Oper) (rest : Env → St → Prop) (env : Env) (s : St) : Prop :=
  match o.op with
  | .move x => rest (put N env o.dst (rd env x)) s
  | .assign x => rest (put N env o.dst (rd env x)) s
  | .pick c a b => match rd env c with | .bool t => rest (put N env o.dst (if t then rd env a else rd env b)) s | _ => False
  | .alloc T => (qi P T).zok = true ∧ ∀ b, New s b → rest (put N env o.dst (.ptr b 0)) (s.set b (.obj T (qi P T).z))
  | .box T x => (rd env x).cells.all VV.one = true ∧ ∀ b, New s b → rest (put N env o.dst (.ptr b 0)) (s.set b (.obj T (rd env x).cells))
  | .build T parts => fok P T = true ∧ (qi P T).zok = true ∧ optB (fun cs => rest (put N env o.dst (.agg cs)) s) (vfill P T (qi P T).z (parts.toList.map fun p => (p.1, rd env p.2)))
  | .buildSlice T len parts => parts.size = len ∧ (qi P (elemT (qi P T))).zok = true ∧ len * (qi P (elemT (qi P T))).sz ≤ 16777216 ∧ (match (qi P T).k with | .slice _ => True | _ => False) ∧
      optB (fun xs => rest (put N env o.dst (.lst xs (ownLit len))) s) (vrow (qi P (elemT (qi P T))).sz 0 (parts.toList.map fun p => (p.1, rd env p.2)))
  | .load T a => optB (fun x => rest (put N env o.dst x) s) (vload (qi P T) (rd env a) s)
  | .store T a x => optB (fun s' => rest (put N env o.dst (.tup [])) s') (vstore (qi P T) (rd env a) (rd env x) s)
  | .nilCheck x => (match rd env x with | .ptr _ _ => True | .eptr _ => True | .fn _ _ => True | .mp _ => True | _ => False) ∧ rest (put N env o.dst (rd env x)) s
  | .binOp op T x y _ =>
    match rd env x, rd env y with
    | .int k a, .int k' b => (k = k' ∨ isSh op = true) ∧ optB (fun z => rest (put N env o.dst z) s) (vint op k a b)
    | .str a, .str b =>
      (match op with
       | .add => a.length + b.length ≤ 9223372036854775807 ∧ rest (put N env o.dst (.str (a ++ b))) s
       | .eql => rest (put N env o.dst (.bool (decide (a = b)))) s
       | .neq => rest (put N env o.dst (.bool !(decide (a = b)))) s
       | _ => False)
    | .bool a, .bool b => (match (qi P T).k with | .bool => True | _ => False) ∧
      (match op with
       | .eql => rest (put N env o.dst (.bool (a == b))) s
       | .neq => rest (put N env o.dst (.bool !(a == b))) s
       | _ => False)
    | .ptr b i, .ptr b' j => pok P T = true ∧ b = b' ∧ i = j ∧
      (match op with
       | .eql => rest (put N env o.dst (.bool true)) s
       | .neq => rest (put N env o.dst (.bool false)) s
       | _ => False)
    | .agg xs, .agg ys =>
      (match op with
       | .eql => optB (fun b => rest (put N env o.dst (.bool b)) s) (vagq P T xs ys)
       | .neq => optB (fun b => rest (put N env o.dst (.bool !b)) s) (vagq P T xs ys)
       | _ => False)
    | x', y' => y.isConst = true ∧
      (match op with
       | .eql => optB (fun b => rest (put N env o.dst (.bool b)) s) (nilB (qi P T).k x' y')
       | .neq => optB (fun b => rest (put N env o.dst (.bool !b)) s) (nilB (qi P T).k x' y')
       | _ => False)
  | .convert src dst x => optB (fun z => rest (put N env o.dst z) s) (vconv P src dst (rd env x) s)
  | .unOp op _ x =>
    match op, rd env x with
    | .not, .bool b => rest (put N env o.dst (.bool !b)) s
    | .neg, .int k n => rest (put N env o.dst (.int k (k.wrap (0 - n)))) s
    | _, _ => False
  | .fieldAddr T x j =>
    match rd env x, qf P T j with
    | .eptr cs, some (off, _, _) => off ≤ cs.length ∧ rest (put N env o.dst (.eptr (cs.drop off))) s
    | .ptr b o', some (off, _, _) => rest (put N env o.dst (.ptr b (o' + off))) s
    | _, _ => False
  | .field T x j =>
    match rd env x, qf P T j with
    | .agg cs, some (off, sz, ag) => optB (fun z => rest (put N env o.dst z) s) (partOf cs off sz ag)
    | _, _ => False
  | .indexAddr T x i => optB (fun z => rest (put N env o.dst z) s) (vidx (qi P T) (qi P (elemT (qi P T))).sz (rd env x) (rd env i))
  | .index T x i => optB (fun z => rest (put N env o.dst z) s) (vat (qi P T) (rd env x) (rd env i))
  | .slice T x lo hi mx => mx = none ∧ optB (fun z => rest (put N env o.dst z) s) (vslice (qi P T) (qi P (elemT (qi P T))) (rd env x) (lo.map (rd env)) (hi.map (rd env)))
  | .makeInterface T x => (match (qi P T).k with | .iface => False | .other => False | _ => True) ∧ rest (put N env o.dst (.iface T (rd env x))) s
  | .makeFunc (.func f) fs caps => fs = #[] ∧ rest (put N env o.dst (.fn f (caps.toList.map (rd env)))) s
  | .makeMap _ none => ∀ b, New s b → rest (put N env o.dst (.mp b)) (s.set b (.map []))
  | .lookup T m k ok => optB (fun z => rest (put N env o.dst z) s) (vlookup (qi P T) (qi P (elemT (qi P T))) (qi P (keyT (qi P T))) (rd env m) (rd env k) ok s)
  | .mapUpdate T m k x => optB (fun s' => rest (put N env o.dst (.tup [])) s') (vupdate (qi P T) (qi P (keyT (qi P T))) (rd env m) (rd env k) (rd env x) s)
  | .extract t i => match rd env t with | .tup xs => optB (fun z => rest (put N env o.dst z) s) xs[i]? | _ => False
  | .typeAssert x _ T ok => ok = true ∧ (match (qi P T).k with | .iface => False | .other => False | _ => True) ∧ (match rd env x with | .iface T' y => T' = T ∧ rest (put N env o.dst (.tup [y, .bool true])) s | _ => False)
  | .panic x => match rd env x with | .iface T y => E (.iface T y) env s | _ => False
  | .call c =>
    match c.callee with
    | .value f => vcall P N E o.dst rest env s (rd env f) (c.args.toList.map (rd env))
    | .builtin .len => match c.args.toList, c.argTypes.toList with | [x], [T] => optB (fun z => rest (put N env o.dst z) s) (vlen (qi P T) (rd env x) s) | _, _ => False
    | .builtin .min => match c.args.toList with | [x, y] => optB (fun z => rest (put N env o.dst z) s) (vminmax false (rd env x) (rd env y)) | _ => False
    | .builtin .max => match c.args.toList with | [x, y] => optB (fun z => rest (put N env o.dst z) s) (vminmax true (rd env x) (rd env y)) | _ => False
    | .builtin .append =>
      match c.args.toList, c.argTypes.toList with
      | [x, y], [T, T'] =>
        (match (qi P T).k with | .slice _ => True | _ => False) ∧
        (match rd env x, rd env y with
         | .lst xs ox, .lst ys _ => T = T' ∧ vappend (fun z s' => rest (put N env o.dst z) s') (elemT (qi P T)) (qi P (elemT (qi P T))) xs ys ox s
         | .lst xs ox, .str l => (qi P T').k.isStr = true ∧ vappend (fun z s' => rest (put N env o.dst z) s') (elemT (qi P T)) (qi P (elemT (qi P T))) xs (bytesV l) ox s
         | _, _ => False)
      | _, _ => False
    | _ => False
  | _ => False

def vskip (o : Oper) (rest : Env → St → Prop) (env : Env) (s : St) : Prop := rest (put N env o.dst (.tup [])) s
def yv (all : List Oper) (env : Env) (j : Nat) : VV := match (all[j]?).bind (·.dst) with | some t => env t | none => .tup []
def vguard (g : VV) (want : Bool) (run skip : Prop) : Prop :=
  match g with
  | .bool b => if b = want then run else skip
  | .tup _ => skip
  | _ => False

/-- A region's operations, one by one. -/
def vops : List Oper → Env → St → Prop
  | [], env, s => K env s
  | o :: rest, env, s =>
    match o.guard with
    | none => vstep P N E o (fun env s => vops rest env s) env s
    | some (j, want) => vguard (yv all env j) want (vstep P N E o (fun env s => vops rest env s) env s) (vskip N o (fun env s => vops rest env s) env s)
end
end Go.Proofs.YtbfgdblebepgcaaDoor
