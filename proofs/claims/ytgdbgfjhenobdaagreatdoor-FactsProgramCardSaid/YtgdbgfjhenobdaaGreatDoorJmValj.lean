/- Walks of functions that the claim reaches, and plain facts of them. Conditions: those in the statements. -/
import Derived.Tactics
import Derived.Test.YtgdbgfjhenobdaaGreatDoorProg
import Derived.Lib.LaidTab
import Derived.Lib.ItoaNum
import Derived.Below
import Derived.OwnWalk
import Derived.Laws.AppendOwn
import Derived.Laws.Rows
import Derived.MapKept
import Derived.Laws.Slices
import Derived.Laws.Strings
set_option linter.unusedSimpArgs false
set_option linter.unusedVariables false
namespace Go.Proofs.YtgdbgfjhenobdaaGreatDoor
open Go.RowKit
inductive Own where
 |no
 |full
 |at_ (b:Nat)
inductive VV where
 |int (k:IntKind) (n:Int)
 |bool (b:Bool)
 |str (s:List UInt8)
 |lst (xs:List (List VV)) (o:Own)
 |eptr (cs:List VV)
 |ptr (b off:Nat)
 |fn (f:FuncId) (caps:List VV)
 |mp (b:Nat)
 |msl (b n:Nat)
 |mrw (b n:Nat)
 |iface (t:TypeId) (x:VV)
 |agg (cs:List VV)
 |tup (xs:List VV)
 |raw (v:Value)
instance:Inhabited VV:=⟨.bool false⟩
namespace VV
def one:VV→Bool
 |.agg _=>false
 |.tup _=>false
 |.raw v=>v.oneCell'
 |_=>true
def cells:VV→List VV
 |.agg cs=>cs
 |x=>[x]
end VV
structure Gh where
 K:Nat→Nat→Option Value
 cap:Nat→Option (Nat×Nat)
structure Gh.le (G G':Gh):Prop where
 K:∀b i v,G.K b i=some v→G'.K b i=some v
 cap:∀b c,G.cap b=some c→G'.cap b=some c
theorem Gh.le.refl (G:Gh):G.le G:=⟨fun _ _ _ h=>h,fun _ _ h=>h⟩
theorem Gh.le.trans {A B C:Gh}(h:A.le B)(k:B.le C):A.le C:=
 ⟨fun b i v e=>k.K b i v (h.K b i v e),fun b c e=>k.cap b c (h.cap b c e)⟩
inductive R (G:Gh):Value→VV→Prop
 |int (k:IntKind) (n:Int):R G (.int k n) (.int k n)
 |bool (b:Bool):R G (.bool b) (.bool b)
 |str (a:Array UInt8):R G (.string ⟨a⟩) (.str a.toList)
 |raw (v:Value):R G v (.raw v)
 |emp (a:Option Addr) (cap:Nat) (o:Own) (ho:o=.no∨(o=.full∧a=none∧cap=0)):R G (.slice a 0 cap) (.lst [] o)
 |lst (b off len cap sz:Nat) (xs:List (List VV)) (o:Own) (f:Nat→Nat→Value) (hl:xs.length=len) (hc:len≤cap)
   (hz:∀x,x∈xs→x.length=sz) (h1:∀x,x∈xs→∀y,y∈x→y.one=true)
   (hK:∀i j,i<len→j<sz→G.K b (off+(i * sz+j))=some (f i j))
   (hR:∀(i j:Nat) (x:List VV) (y:VV),xs[i]?=some x→x[j]?=some y→R G (f i j) y)
   (ho:o=.no∨(o=.full∧cap=len∧0<len)∨(o=.at_ b∧off=0∧G.cap b=some (cap,sz))) :
   R G (.slice (some ⟨b,off,none⟩) len cap) (.lst xs o)
 |eptr (b off:Nat) (cs:List VV) (f:Nat→Value) (h1:∀y,y∈cs→y.one=true)
   (hK:∀j,j<cs.length→G.K b (off+j)=some (f j))
   (hR:∀(j:Nat) (y:VV),cs[j]?=some y→R G (f j) y):R G (.pointer (some ⟨b,off,none⟩)) (.eptr cs)
 |ptr (b off:Nat):R G (.pointer (some ⟨b,off,none⟩)) (.ptr b off)
 |fn (f:FuncId) (vs:Array Value) (xs:List VV) (hs:vs.size=xs.length) (hR:∀(j:Nat) (v:Value) (y:VV),vs[j]?=some v→xs[j]?=some y→R G v y) :
   R G (.func (.func f) #[] vs) (.fn f xs)
 |mp (b:Nat):R G (.map (some b)) (.mp b)
 |msl (b n:Nat):R G (.slice (some ⟨b,0,none⟩) n n) (.msl b n)
 |mrw (b n cap sz:Nat) (hq:G.cap b=some (cap,sz)) (hn:n≤cap):R G (.slice (some ⟨b,0,none⟩) n cap) (.mrw b n)
 |iface (t:TypeId) (v:Value) (x:VV) (h:R G v x):R G (.iface t v) (.iface t x)
 |agg (vs:Array Value) (xs:List VV) (hs:vs.size=xs.length) (h1:∀y,y∈xs→y.one=true)
   (hR:∀(j:Nat) (v:Value) (y:VV),vs[j]?=some v→xs[j]?=some y→R G v y):R G (.agg vs) (.agg xs)
 |tup (vs:Array Value) (xs:List VV) (hs:vs.size=xs.length) (hR:∀(j:Nat) (v:Value) (y:VV),vs[j]?=some v→xs[j]?=some y→R G v y) :
   R G (.tuple vs) (.tup xs)
theorem R.mono {G G':Gh}(h:G.le G'):∀{v:Value} {x:VV},R G v x→R G' v x:=by
 intro v x r
 induction r with
 |int k n=>exact .int k n
 |bool b=>exact .bool b
 |str a=>exact .str a
 |raw v=>exact .raw v
 |emp a cap o ho=>exact .emp a cap o ho
 |lst b off len cap sz xs o f hl hc hz h1 hK hR ho ih=>
  refine .lst b off len cap sz xs o f hl hc hz h1 (fun i j hi hj=>h.K _ _ _ (hK i j hi hj)) ih ?_
  rcases ho with ho|ho|⟨h1,h2,h3⟩
  ·exact .inl ho
  ·exact .inr (.inl ho)
  ·exact .inr (.inr ⟨h1,h2,h.cap _ _ h3⟩)
 |eptr b off cs f h1 hK hR ih=>exact .eptr b off cs f h1 (fun j hj=>h.K _ _ _ (hK j hj)) ih
 |ptr b off=>exact .ptr b off
 |fn f vs xs hs hR ih=>exact .fn f vs xs hs ih
 |mp b=>exact .mp b
 |msl b n=>exact .msl b n
 |mrw b n cap sz hq hn=>exact .mrw b n cap sz (h.cap _ _ hq) hn
 |iface t v x hx ih=>exact .iface t v x ih
 |agg vs xs hs h1 hR ih=>exact .agg vs xs hs h1 ih
 |tup vs xs hs hR ih=>exact .tup vs xs hs ih
theorem R.one {G:Gh}{v:Value}{x:VV}(h:R G v x):v.oneCell'=x.one:=by
 cases h<;>rfl
theorem R.unown {G:Gh}{v:Value}{xs:List (List VV)}{o:Own}(h:R G v (.lst xs o)):R G v (.lst xs .no):=by
 cases h with
 |emp a cap o ho=>exact .emp a cap .no (.inl rfl)
 |lst b off len cap sz xs o f hl hc hz h1 hK hR ho=>exact .lst b off len cap sz xs .no f hl hc hz h1 hK hR (.inl rfl)
def cv:Value→VV
 |.int k n=>.int k n
 |.bool b=>.bool b
 |.string ⟨a⟩=>.str a.toList
 |.slice none 0 0=>.lst [] .full
 |v=>.raw v
theorem R.cv (G:Gh)(v:Value):R G v (cv v):=by
 unfold Go.Proofs.YtgdbgfjhenobdaaGreatDoor.cv
 split
 ·exact .int _ _
 ·exact .bool _
 ·exact .str _
 ·exact .emp _ _ _ (.inr ⟨rfl,rfl,rfl⟩)
 ·exact .raw _
inductive Cell where
 |free
 |obj (T:TypeId) (xs:List VV)
 |vec (T:TypeId) (sz n:Nat)
 |map (es:List (VV×VV))
 |pk (T:TypeId) (xs:List VV) (rs:List (Nat×TypeId×Nat))
 |row (T:TypeId) (sz:Nat) (xs:List VV)
abbrev St:=Nat→Cell
def St.set (s:St)(b:Nat)(c:Cell):St:=fun x=>if x=b then c else s x
theorem St.set_same (s:St)(b:Nat)(c:Cell):s.set b c b=c:=by simp[St.set]
theorem St.set_other (s:St){b x:Nat}(c:Cell)(h:x≠b):s.set b c x=s x:=by simp[St.set,h]
theorem St.set_set (s:St)(b:Nat)(c d:Cell):(s.set b c).set b d=s.set b d:=by
 funext x;by_cases h:x=b<;>simp[St.set,h]
theorem St.set_self (s:St)(b:Nat)(c:Cell)(h:s b=c):s.set b c=s:=by
 funext x;by_cases hx:x=b<;>simp[St.set,hx,h]
def CellOk (B:Nat)(G:Gh)(w:World)(b:Nat):Cell→Prop
 |.free=>True
 |.obj T xs=>B≤b∧(∀i,G.K b i=none)∧∃c:Array Value,w.heap[b]?=some (.cells c T (0,0))∧c.size=xs.length ∧
   ∀(i:Nat) (x:VV),xs[i]?=some x→x.one=true∧∃v,c[i]?=some v∧R G v x
 |.vec T sz n=>B≤b∧∃(c:Array Value) (cap:Nat) (fz:Nat×Nat),G.cap b=some (cap,sz)∧w.heap[b]?=some (.cells c T fz)∧fz.2≤n * sz∧c.size=cap * sz∧n≤cap∧cap≤maxLen ∧
   ∀i,n * sz≤i→G.K b i=none
 |.map es=>B≤b∧∃(c:Array MapEntry) (clock:Nat),w.heap[b]?=some (.map c clock)∧(c.size=es.length∧MapKept.Stamped c clock) ∧
   ∀(i:Nat) (k x:VV),es[i]?=some (k,x)→∃e,c[i]?=some e∧R G e.key k∧R G e.val x
 |.pk T xs _=>B≤b∧(∀i,G.K b i=none)∧∃c:Array Value,w.heap[b]?=some (.cells c T (0,0))∧c.size=xs.length ∧
   ∀(i:Nat) (x:VV),xs[i]?=some x→x.one=true∧∃v,c[i]?=some v∧R G v x
 |.row T sz xs=>B≤b∧(∀i,G.K b i=none)∧∃(c:Array Value) (cap:Nat),w.heap[b]?=some (.cells c T (0,0))∧G.cap b=some (cap,sz)∧c.size=cap * sz∧xs.length≤cap * sz∧cap≤maxLen ∧
   ∀(i:Nat) (x:VV),xs[i]?=some x→x.one=true∧∃v,c[i]?=some v∧R G v x
def GLB (w:World):Prop:=Go.Lib.TabIs Tryz.prog w "internal/strconv.uint64pow10" .u64 Go.Lib.pow10Tab
def RowAt (B:Nat)(G:Gh)(w:World)(m:Nat→Nat→Option Nat)(b:Nat)(T:TypeId)(xs:List VV)(i:Nat)(T':TypeId)(sz:Nat):Prop:=
  ∃(c:Array Value) (l:List (List VV)),w.heap[b]?=some (.cells c T (0,0))∧xs[i]?=some (.lst l .no) ∧
    ((l = [] ∧ c[i]? = some (.slice none 0 0)) ∨
     ∃g cap,m b i=some g∧c[i]?=some (.slice (some ⟨g,0,none⟩) l.length cap)∧R G (.slice (some ⟨g,0,none⟩) l.length cap) (.lst l (.at_ g))∧CellOk B G w g (.vec T' sz l.length))
def Rows (B:Nat)(G:Gh)(w:World)(s:St):Prop:=∃m:Nat→Nat→Option Nat,
 (∀b i b' i' g,m b i=some g→m b' i'=some g→b=b'∧i=i')∧(∀b i g,m b i=some g→s g=.free∧g<w.heap.size) ∧
 ∀b T xs rs i T' sz,s b=.pk T xs rs→(i,T',sz)∈rs→RowAt B G w m b T xs i T' sz
structure Sim (w0:World) (G:Gh) (w:World) (s:St):Prop where
 below:Below w0.heap.size w0 w
 K:∀b i v,G.K b i=some v→w.cell? ⟨b,i,none⟩=some v
 cap:∀b c,G.cap b=some c→b<w.heap.size
 ok:∀b,CellOk w0.heap.size G w b (s b)
 gl:GLB w0
 rows:Rows w0.heap.size G w s
theorem CellOk.keep {B:Nat}{G G':Gh}{w w':World}{b:Nat}{c:Cell}(h:CellOk B G w b c)(hh:w'.heap[b]?=w.heap[b]?)(hG:G.le G')
  (hK:∀i,G'.K b i=G.K b i):CellOk B G' w' b c:=by
 cases c with
 |free=>trivial
 |obj T xs=>
  obtain⟨hB,hn,c,e,hs,hx⟩:=h
  exact⟨hB,fun i=>(hK i).trans (hn i),c,hh.trans e,hs,fun i x hi=>let ⟨h1,v,hv,hr⟩:=hx i x hi;⟨h1,v,hv,hr.mono hG⟩⟩
 |vec T sz n=>
  obtain⟨hB,c,cap,fz,hc,e,hfz,hs,hn,hm,hk⟩:=h
  exact⟨hB,c,cap,fz,hG.cap _ _ hc,hh.trans e,hfz,hs,hn,hm,fun i hi=>(hK i).trans (hk i hi)⟩
 |map es=>
  obtain⟨hB,c,cl,e,hs,hx⟩:=h
  exact⟨hB,c,cl,hh.trans e,hs,fun i k x hi=>let ⟨e,he,hr,hr'⟩:=hx i k x hi;⟨e,he,hr.mono hG,hr'.mono hG⟩⟩
 |pk T xs rs=>
  obtain⟨hB,hn,c,e,hs,hx⟩:=h
  exact⟨hB,fun i=>(hK i).trans (hn i),c,hh.trans e,hs,fun i x hi=>let ⟨h1,v,hv,hr⟩:=hx i x hi;⟨h1,v,hv,hr.mono hG⟩⟩
 |row T sz xs=>
  obtain⟨hB,hn,c,cap,e,hq,hs,hl,hm,hx⟩:=h
  exact⟨hB,fun i=>(hK i).trans (hn i),c,cap,hh.trans e,hG.cap _ _ hq,hs,hl,hm,fun i x hi=>let ⟨h1,v,hv,hr⟩:=hx i x hi;⟨h1,v,hv,hr.mono hG⟩⟩
theorem Rows.keep {B:Nat}{G G':Gh}{w w':World}{s s':St}(h:Rows B G w s)(hG:G.le G')(hsz:w.heap.size≤w'.heap.size)
  (hfr:∀g,g<w.heap.size→s g=.free→s' g=.free∧w'.heap[g]?=w.heap[g]?∧∀i,G'.K g i=G.K g i)
  (hpk:∀b T xs rs,s' b=.pk T xs rs→∃xs0 rs0,s b=.pk T xs0 rs0∧∀r,r∈rs→r∈rs0∧xs[r.1]?=xs0[r.1]? ∧
   ∀c,w.heap[b]?=some (.cells c T (0,0))→∃c',w'.heap[b]?=some (.cells c' T (0,0))∧c'[r.1]?=c[r.1]?):Rows B G' w' s':=by
 obtain⟨m,h1,h2,h3⟩:=h
 refine⟨m,h1,fun b i g hm=>?_,fun b T xs rs i T' sz hb hr=>?_⟩
 ·obtain⟨a1,a2⟩:=h2 b i g hm
  exact⟨(hfr g a2 a1).1,Nat.lt_of_lt_of_le a2 hsz⟩
 ·obtain⟨xs0,rs0,hb0,hall⟩:=hpk b T xs rs hb
  obtain⟨hr0,hx,hc⟩:=hall _ hr
  obtain⟨c,l,e,hxl,hrow⟩:=h3 b T xs0 rs0 i T' sz hb0 hr0
  obtain⟨c',e',hci⟩:=hc c e
  refine⟨c',l,e',by rw[← hxl];exact hx,?_⟩
  rcases hrow with ⟨hl,hn⟩|⟨g,cap,hm,hs,hR,hv⟩
  ·exact .inl ⟨hl,hci.trans hn⟩
  ·obtain⟨a1,a2⟩:=h2 b i g hm
   obtain⟨_,a3,a4⟩:=hfr g a2 a1
   exact .inr ⟨g,cap,hm,hci.trans hs,hR.mono hG,hv.keep a3 hG a4⟩
theorem Rows.keep' {B:Nat}{G G':Gh}{w w':World}{s s':St}(h:Rows B G w s)(hG:G.le G')(hsz:w.heap.size≤w'.heap.size)
  (hfr:∀g,g<w.heap.size→s g=.free→s' g=.free∧w'.heap[g]?=w.heap[g]?∧∀i,G'.K g i=G.K g i)
  (hpk:∀b T xs rs,s' b=.pk T xs rs→s b=.pk T xs rs∧w'.heap[b]?=w.heap[b]?):Rows B G' w' s':=
 h.keep hG hsz hfr fun b T xs rs hb=>let ⟨a1,a2⟩:=hpk b T xs rs hb;⟨xs,rs,a1,fun r hr=>⟨hr,rfl,fun c hc=>⟨c,a2.trans hc,rfl⟩⟩⟩
def Fg (s s':St):Prop:=∀b,s' b=.free∨s' b=s b
theorem Fg.refl (s:St):Fg s s:=fun _=>.inr rfl
theorem Fg.trans {a b c:St}(h:Fg a b)(k:Fg b c):Fg a c:=fun x=>by
 rcases k x with e|e
 ·exact .inl e
 ·rw[e];exact h x
theorem Fg.set_free (s:St)(b:Nat):Fg s (s.set b .free):=fun x=>by
 by_cases h:x=b
 ·exact .inl (by simp[St.set,h])
 ·exact .inr (by simp[St.set,h])
theorem Fg.of_set {s:St}{b:Nat}(c:Cell)(h:s b=.free):Fg (s.set b c) s:=fun x=>by
 by_cases hx:x=b
 ·subst hx;exact .inl h
 ·exact .inr (by simp[St.set,hx])
theorem Fg.set {s s':St}(h:Fg s s')(b:Nat)(c:Cell):Fg (s.set b c) (s'.set b c):=fun x=>by
 by_cases hx:x=b
 ·exact .inr (by simp[St.set,hx])
 ·simpa [St.set,hx]using h x
theorem Sim.forget {w0 w:World}{G:Gh}{s s':St}(h:Sim w0 G w s)(hf:Fg s s'):Sim w0 G w s':=
 ⟨h.below,h.K,h.cap,fun b=>by
  rcases hf b with e|e
  ·rw[e];trivial
  ·rw[e];exact h.ok b,h.gl,h.rows.keep' (Gh.le.refl G) (Nat.le_refl _) (fun g _ hg=>⟨by rcases hf g with e|e;exact e;rw[e];exact hg,rfl,fun _=>rfl⟩) (fun b T xs rs hb=>by
   rcases hf b with e|e
   ·rw[e]at hb;cases hb
   ·exact⟨by rw[← e];exact hb,rfl⟩)⟩
section
variable {w0 w : World} {G : Gh} {s : St}
theorem Sim.lt (h:Sim w0 G w s){b:Nat}(hb:s b≠.free):b<w.heap.size:=by
 have ho:=h.ok b
 have key:∀o,w.heap[b]?=some o→b<w.heap.size:=fun o e=>(Array.getElem?_eq_some_iff.1 e).1
 cases hc:s b with
 |free=>exact absurd hc hb
 |obj T xs=>rw[hc]at ho;obtain⟨_,_,c,e,_⟩:=ho;exact key _ e
 |vec T sz n=>rw[hc]at ho;obtain⟨_,c,cap,fz,_,e,_⟩:=ho;exact key _ e
 |map es=>rw[hc]at ho;obtain⟨_,c,cl,e,_⟩:=ho;exact key _ e
 |pk T xs rs=>rw[hc]at ho;obtain⟨_,_,c,e,_⟩:=ho;exact key _ e
 |row T sz xs=>rw[hc]at ho;obtain⟨_,_,c,cap,e,_⟩:=ho;exact key _ e
theorem Sim.fresh (h:Sim w0 G w s):s w.heap.size=.free:=by
 cases hc:s w.heap.size with
 |free=>rfl
 |_=>exact absurd (h.lt (b:=w.heap.size) (by rw[hc];simp)) (Nat.lt_irrefl _)
theorem Sim.K_lt (h:Sim w0 G w s){b i:Nat}{v:Value}(hk:G.K b i=some v):b<w.heap.size:=by
 have:=World.block_lt_of_cell? w _ (h.K b i v hk)
 exact this
theorem Sim.K_fresh (h:Sim w0 G w s)(i:Nat):G.K w.heap.size i=none:=by
 cases hk:G.K w.heap.size i with
 |none=>rfl
 |some v=>exact absurd (h.K_lt hk) (Nat.lt_irrefl _)
theorem Sim.cap_fresh (h:Sim w0 G w s):G.cap w.heap.size=none:=by
 cases hk:G.cap w.heap.size with
 |none=>rfl
 |some v=>exact absurd (h.cap _ _ hk) (Nat.lt_irrefl _)
theorem Sim.size_le (h:Sim w0 G w s):w0.heap.size≤w.heap.size:=h.below.size
theorem Sim.drew (h:Sim w0 G w s):Sim w0 G w.drew s:=
 ⟨h.below.drew,h.K,h.cap,fun b=>(h.ok b).keep rfl (Gh.le.refl G) (fun _=>rfl),h.gl,h.rows.keep' (Gh.le.refl G) (Nat.le_refl _) (fun g _ hg=>⟨hg,rfl,fun _=>rfl⟩) (fun b T xs rs hb=>⟨hb,rfl⟩)⟩
theorem cell?_alloc {w:World}{o:Obj}{a:Addr}{v:Value}(h:w.cell? a=some v):(w.alloc o).cell? a=some v:=
 (World.cell?_alloc_lt w o a (World.block_lt_of_cell? w a h)).trans h
theorem Sim.alloc (h:Sim w0 G w s)(o:Obj):Sim w0 G (w.alloc o) s:=
 ⟨h.below.alloc h.size_le o,fun b i v hk=>cell?_alloc (h.K b i v hk),fun b c hc=>by have:=h.cap b c hc;simp;omega,fun b=>by
  by_cases hb:b<w.heap.size
  ·exact(h.ok b).keep (heap_alloc_old w o b hb) (Gh.le.refl G) (fun _=>rfl)
  ·have:s b=.free:=by
    cases hc:s b with
    |free=>rfl
    |_=>exact absurd (h.lt (b:=b) (by rw[hc];simp)) hb
   rw[this];trivial,h.gl,h.rows.keep' (Gh.le.refl G) (by simp) (fun g hl hg=>⟨hg,heap_alloc_old w o g hl,fun _=>rfl⟩) (fun b T xs rs hb=>⟨hb,heap_alloc_old w o b (h.lt (by rw[hb];simp))⟩)⟩
theorem Sim.rows_new (h:Sim w0 G w s)(o:Obj)(c:Cell)(hc:∀T xs rs,c≠.pk T xs rs):Rows w0.heap.size G (w.alloc o) (s.set w.heap.size c):=
 h.rows.keep' (Gh.le.refl G) (by simp) (fun g hl hg=>⟨by rw[St.set_other _ _ (by omega)];exact hg,heap_alloc_old w o g hl,fun _=>rfl⟩) (fun b T xs rs hb=>by
  by_cases e:b=w.heap.size
  ·subst e;rw[St.set_same]at hb;exact absurd hb (hc T xs rs)
  ·rw[St.set_other _ _ e]at hb
   exact⟨hb,heap_alloc_old w o b (h.lt (by rw[hb];simp))⟩)
theorem Sim.alloc_obj (h:Sim w0 G w s)(T:TypeId)(c:Array Value)(xs:List VV)(hs:c.size=xs.length)
  (hx:∀(i:Nat) (x:VV),xs[i]?=some x→x.one=true∧∃v,c[i]?=some v∧R G v x) :
  Sim w0 G (w.alloc (.cells c T)) (s.set w.heap.size (.obj T xs)):=by
 have h':=h.alloc (.cells c T)
 refine⟨h'.below,h'.K,h'.cap,fun b=>?_,h.gl,h.rows_new _ _ (fun _ _ _ e=>by cases e)⟩
 by_cases hb:b=w.heap.size
 ·subst hb
  rw[St.set_same]
  exact⟨h.size_le,h.K_fresh,c,heap_alloc_new w _,hs,hx⟩
 ·rw[St.set_other s _ hb];exact h'.ok b
theorem Sim.alloc_map (h:Sim w0 G w s):Sim w0 G (w.alloc (.map #[] 0)) (s.set w.heap.size (.map [])):=by
 have h':=h.alloc (.map #[] 0)
 refine⟨h'.below,h'.K,h'.cap,fun b=>?_,h.gl,h.rows_new _ _ (fun _ _ _ e=>by cases e)⟩
 by_cases hb:b=w.heap.size
 ·subst hb
  rw[St.set_same]
  exact⟨h.size_le,#[],0,heap_alloc_new w _,⟨rfl,MapKept.stamped_empty 0⟩,fun i k x hi=>by simp at hi⟩
 ·rw[St.set_other s _ hb];exact h'.ok b
def Gh.know (G:Gh)(b:Nat)(c:Nat→Option Value):Gh:=⟨fun x i=>if x=b then c i else G.K x i,G.cap⟩
theorem Gh.le_know (G:Gh)(b:Nat)(c:Nat→Option Value)(h:∀i v,G.K b i=some v→c i=some v):G.le (G.know b c):=
 ⟨fun x i v hv=>by
  by_cases hx:x=b
  ·subst hx;simp[Gh.know,h i v hv]
  ·simp[Gh.know,hx,hv],fun _ _ h=>h⟩
theorem Gh.know_K (G:Gh)(b:Nat)(c:Nat→Option Value)(i:Nat):(G.know b c).K b i=c i:=by simp[Gh.know]
theorem Gh.know_other (G:Gh){b x:Nat}(c:Nat→Option Value)(h:x≠b)(i:Nat):(G.know b c).K x i=G.K x i:=by simp[Gh.know,h]
theorem Rows.grow {B:Nat}{G G':Gh}{w:World}{s:St}{b:Nat}{c:Cell}(h:Rows B G w s)(hG:G.le G')(hK:∀g i,g≠b→G'.K g i=G.K g i)(hb:s b=c)(hc:c≠.free:=by simp):Rows B G' w s:=
 h.keep' hG (Nat.le_refl _) (fun g _ hg=>⟨hg,rfl,fun i=>hK g i (by rintro rfl;rw[hb]at hg;exact hc hg)⟩) (fun _ _ _ _ hb=>⟨hb,rfl⟩)
theorem Sim.set_pk (h:Sim w0 G w s){b:Nat}{T:TypeId}{xs ys:List VV}{rs rs':List (Nat×TypeId×Nat)}(hb:s b=.pk T xs rs)(w':World)(c c':Array Value)(hc:w.heap[b]?=some (.cells c T (0,0)))
  (hbe:Below w0.heap.size w w') (hsz:w'.heap.size=w.heap.size) (hh:w'.heap[b]?=some (.cells c' T (0,0))) (ho:∀k,k≠b→w'.heap[k]?=w.heap[k]?)
  (hs:c'.size=ys.length) (hx:∀(i:Nat) (x:VV),ys[i]?=some x→x.one=true∧∃v,c'[i]?=some v∧R G v x)
  (hrs:∀r,r∈rs'→r∈rs∧ys[r.1]?=xs[r.1]?∧c'[r.1]?=c[r.1]?) :
  Sim w0 G w' (s.set b (.pk T ys rs')):=by
 have hob:=h.ok b
 rw[hb]at hob
 obtain⟨hB,hn,_⟩:=hob
 refine⟨h.below.trans hbe,fun b' i v hk=>?_,fun b' c hc=>by rw[hsz];exact h.cap b' c hc,fun b'=>?_,h.gl,h.rows.keep (Gh.le.refl G) (by rw[hsz];exact Nat.le_refl _) (fun g _ hg=>⟨?_,ho g ?_,fun _=>rfl⟩) (fun b' T' xs' rs' hb'=>?_)⟩
 ·have hne:b'≠b:=by rintro rfl;rw[hn]at hk;cases hk
  exact(World.cell?_of_block (w:=w) (ho b' hne)).trans (h.K b' i v hk)
 ·by_cases hb':b'=b
  ·subst hb'
   rw[St.set_same]
   exact⟨hB,hn,c',hh,hs,hx⟩
  ·rw[St.set_other s _ hb']
   exact(h.ok b').keep (ho b' hb') (Gh.le.refl G) (fun _=>rfl)
 ·rw[St.set_other _ _ (by rintro rfl;rw[hb]at hg;cases hg)];exact hg
 ·rintro rfl;rw[hb]at hg;cases hg
 ·by_cases hne:b'=b
  ·subst hne
   rw[St.set_same]at hb'
   injection hb' with e1 e2 e3
   subst e1;subst e2;subst e3
   refine⟨xs,rs,hb,fun r hr=>⟨(hrs r hr).1,(hrs r hr).2.1,fun c0 hc0=>?_⟩⟩
   rw[hc]at hc0
   injection hc0 with hc0
   injection hc0 with hc0
   subst hc0
   exact⟨c',hh,(hrs r hr).2.2⟩
  ·rw[St.set_other _ _ hne]at hb'
   exact⟨xs',rs',hb',fun r hr=>⟨hr,rfl,fun c0 hc0=>⟨c0,(ho b' hne).trans hc0,rfl⟩⟩⟩
theorem Sim.alloc_know (h:Sim w0 G w s)(T:TypeId)(c:Array Value) :
  Sim w0 (G.know w.heap.size (fun i=>c[i]?)) (w.alloc (.cells c T)) s∧G.le (G.know w.heap.size (fun i=>c[i]?)):=by
 have hle:G.le (G.know w.heap.size (fun i=>c[i]?)):=G.le_know _ _ fun i v hv=>by rw[h.K_fresh]at hv;cases hv
 refine⟨⟨h.below.alloc h.size_le _,fun b i v hk=>?_,fun b c' hc=>by have:=h.cap b c' hc;simp;omega,fun b=>?_,h.gl,h.rows.keep' hle (by simp) (fun g hl hg=>⟨hg,heap_alloc_old w _ g hl,fun i=>Gh.know_other _ _ (by omega) i⟩) (fun b T xs rs hb=>⟨hb,heap_alloc_old w _ b (h.lt (by rw[hb];simp))⟩)⟩,hle⟩
 ·by_cases hb:b=w.heap.size
  ·subst hb
   rw[Gh.know_K]at hk
   rw[World.cell?_alloc_new];exact hk
  ·rw[Gh.know_other _ _ hb]at hk
   exact cell?_alloc (h.K b i v hk)
 ·by_cases hb:b<w.heap.size
  ·exact(h.ok b).keep (heap_alloc_old w _ b hb) hle (fun i=>Gh.know_other _ _ (by omega) i)
  ·have:s b=.free:=by
    cases hc:s b with
    |free=>rfl
    |_=>exact absurd (h.lt (b:=b) (by rw[hc];simp)) hb
   rw[this];trivial
theorem Sim.set_obj (h:Sim w0 G w s){b:Nat}{T:TypeId}{xs ys:List VV}(hb:s b=.obj T xs)(w':World)(c':Array Value)
  (hbe:Below w0.heap.size w w') (hsz:w'.heap.size=w.heap.size) (hh:w'.heap[b]?=some (.cells c' T (0,0))) (ho:∀k,k≠b→w'.heap[k]?=w.heap[k]?)
  (hs:c'.size=ys.length) (hx:∀(i:Nat) (x:VV),ys[i]?=some x→x.one=true∧∃v,c'[i]?=some v∧R G v x) :
  Sim w0 G w' (s.set b (.obj T ys)):=by
 have hob:=h.ok b
 rw[hb]at hob
 obtain⟨hB,hn,_⟩:=hob
 refine⟨h.below.trans hbe,fun b' i v hk=>?_,fun b' c hc=>by rw[hsz];exact h.cap b' c hc,fun b'=>?_,h.gl,h.rows.keep' (Gh.le.refl G) (by rw[hsz];exact Nat.le_refl _) (fun g _ hg=>⟨?_,ho g ?_,fun _=>rfl⟩) (fun b' T' xs' rs' hb'=>?_)⟩
 rotate_left 2
 ·rw[St.set_other _ _ (by rintro rfl;rw[hb]at hg;cases hg)];exact hg
 ·rintro rfl;rw[hb]at hg;cases hg
 ·have hne:b'≠b:=by rintro rfl;rw[St.set_same]at hb';cases hb'
  rw[St.set_other _ _ hne]at hb'
  exact⟨hb',ho b' hne⟩
 ·have hne:b'≠b:=by rintro rfl;rw[hn]at hk;cases hk
  exact(World.cell?_of_block (w:=w) (ho b' hne)).trans (h.K b' i v hk)
 ·by_cases hb':b'=b
  ·subst hb'
   rw[St.set_same]
   exact⟨hB,hn,c',hh,hs,hx⟩
  ·rw[St.set_other s _ hb']
   exact(h.ok b').keep (ho b' hb') (Gh.le.refl G) (fun _=>rfl)
theorem Sim.set_row (h:Sim w0 G w s){b:Nat}{T:TypeId}{sz:Nat}{xs ys:List VV}(hb:s b=.row T sz xs)(w':World)(c c':Array Value)(hc:w.heap[b]?=some (.cells c T (0,0)))
  (hbe:Below w0.heap.size w w') (hsz:w'.heap.size=w.heap.size) (hh:w'.heap[b]?=some (.cells c' T (0,0))) (ho:∀k,k≠b→w'.heap[k]?=w.heap[k]?)
  (hs:c'.size=c.size) (hl:ys.length≤c.size) (hx:∀(i:Nat) (x:VV),ys[i]?=some x→x.one=true∧∃v,c'[i]?=some v∧R G v x) :
  Sim w0 G w' (s.set b (.row T sz ys)):=by
 have hob:=h.ok b
 rw[hb]at hob
 obtain⟨hB,hn,c0,cap,hc0,hq,hcs,hle,hm,_⟩:=hob
 rw[hc]at hc0
 injection hc0 with hc0
 injection hc0 with hc0
 subst hc0
 refine⟨h.below.trans hbe,fun b' i v hk=>?_,fun b' c hc=>by rw[hsz];exact h.cap b' c hc,fun b'=>?_,h.gl,h.rows.keep' (Gh.le.refl G) (by rw[hsz];exact Nat.le_refl _) (fun g _ hg=>⟨?_,ho g ?_,fun _=>rfl⟩) (fun b' T' xs' rs' hb'=>?_)⟩
 rotate_left 2
 ·rw[St.set_other _ _ (by rintro rfl;rw[hb]at hg;cases hg)];exact hg
 ·rintro rfl;rw[hb]at hg;cases hg
 ·have hne:b'≠b:=by rintro rfl;rw[St.set_same]at hb';cases hb'
  rw[St.set_other _ _ hne]at hb'
  exact⟨hb',ho b' hne⟩
 ·have hne:b'≠b:=by rintro rfl;rw[hn]at hk;cases hk
  exact(World.cell?_of_block (w:=w) (ho b' hne)).trans (h.K b' i v hk)
 ·by_cases hb':b'=b
  ·subst hb'
   rw[St.set_same]
   exact⟨hB,hn,c',cap,hh,hq,hs.trans hcs,by rw[← hcs];exact hl,hm,hx⟩
  ·rw[St.set_other s _ hb']
   exact(h.ok b').keep (ho b' hb') (Gh.le.refl G) (fun _=>rfl)
theorem Sim.alloc_row (h:Sim w0 G w s)(T:TypeId)(c:Array Value)(xs:List VV)(cap sz:Nat)(hc:c.size=cap * sz)(hl:xs.length≤cap * sz)(hm:cap≤maxLen)
  (hx:∀(i:Nat) (x:VV),xs[i]?=some x→x.one=true∧∃v,c[i]?=some v∧R G v x) :
  ∃G',G.le G'∧G'.cap w.heap.size=some (cap,sz)∧Sim w0 G' (w.alloc (.cells c T)) (s.set w.heap.size (.row T sz xs)):=by
 have hle:G.le ⟨G.K,fun x=>if x=w.heap.size then some (cap,sz)else G.cap x⟩:=⟨fun _ _ _ hv=>hv,fun b q hq=>by
  have:b≠w.heap.size:=by rintro rfl;rw[h.cap_fresh]at hq;cases hq
  simp[this,hq]⟩
 have h':=h.alloc (.cells c T)
 refine⟨_,hle,by simp,⟨h'.below,h'.K,fun b q hq=>?_,fun b=>?_,h.gl,(h.rows_new (.cells c T) (.row T sz xs) (fun _ _ _ e=>by cases e)).keep' hle (Nat.le_refl _) (fun g _ hg=>⟨hg,rfl,fun _=>rfl⟩) (fun b T xs rs hb=>⟨hb,rfl⟩)⟩⟩
 ·by_cases hb:b=w.heap.size
  ·subst hb;simp
  ·simp only[if_neg hb]at hq
   have:=h.cap b q hq
   simp;omega
 ·by_cases hb:b=w.heap.size
  ·subst hb
   rw[St.set_same]
   exact⟨h.size_le,h.K_fresh,c,cap,heap_alloc_new w _,by simp,hc,hl,hm,fun i x hi=>let ⟨h1,v,hv,hr⟩:=hx i x hi;⟨h1,v,hv,hr.mono hle⟩⟩
  ·rw[St.set_other s _ hb]
   by_cases hlt:b<w.heap.size
   ·exact(h.ok b).keep (heap_alloc_old w _ b hlt) hle (fun i=>rfl)
   ·have:s b=.free:=by
     cases hc:s b with
     |free=>rfl
     |_=>exact absurd (h.lt (b:=b) (by rw[hc];simp)) hlt
    rw[this];trivial
end
abbrev Env:=Nat→VV
def upd (env:Env)(t:Nat)(x:VV):Env:=fun u=>if u=t then x else env u
def put (N:Nat)(env:Env)(d:Option Tmp)(x:VV):Env:=
 match d with
 |none=>env
 |some t=>if t<N then upd env t x else env
def rd (env:Env):Operand→VV
 |.tmp t=>env t
 |.const v=>cv v
 |.global g=>.raw (.pointer (some ⟨g,0,none⟩))
 |.func f=>.fn f []
inductive QK where
 |bool
 |int (k:IntKind)
 |str
 |slice (e:TypeId)
 |map (k e:TypeId)
 |struct
 |array (n:Nat) (e:TypeId)
 |ptr
 |iface
 |func
 |other
def qkOf:TypeDesc→QK
 |.bool=>.bool
 |.int k=>.int k
 |.string=>.str
 |.slice e=>.slice e
 |.map k e=>.map k e
 |.struct _=>.struct
 |.array n e=>.array n e
 |.pointer _=>.ptr
 |.interface _=>.iface
 |.func _ _ _=>.func
 |_=>.other
def QK.agg:QK→Bool
 |.struct=>true
 |.array _ _=>true
 |_=>false
def QK.isStr:QK→Bool
 |.str=>true
 |_=>false
def bytesV (l:List UInt8):List (List VV):=l.map fun c=>[.int .u8 (c.toNat:Int)]
structure QI where
 k:QK
 sz:Nat
 bt:Nat
 zok:Bool
 z:List VV
def notTup:Value→Bool
 |.tuple _=>false
 |_=>true
def qi (P:Program)(T:TypeId):QI:=
 match P.underlying T,P.info? T with
 |some d,some i=>
  match i.zero with
  |some z=>⟨qkOf d,i.size,i.bytes,z.cells.size == i.size && z.cells.all Value.oneCell' && (qkOf d).agg == !z.oneCell' && decide (0<i.size) && notTup z,z.cells.toList.map cv⟩
  |none=>⟨qkOf d,i.size,i.bytes,false,[]⟩
 |_,_=>⟨.other,0,0,false,[]⟩
def fok (P:Program)(T:TypeId):Bool:=
 match P.underlying T with
 |some (.struct fs)=>fs.all fun f=>(P.info? f.type).isSome
 |some (.array _ e)=>(P.info? e).isSome
 |_=>false
def qf (P:Program)(T:TypeId)(j:Nat):Option (Nat×Nat×Bool):=
 match P.underlying T with
 |some (.struct fs)=>
  match fs[j]? with
  |some f=>
   match P.underlying f.type,P.info? f.type with
   |some d,some i=>if i.size=0 then none else some (f.offset,i.size,(qkOf d).agg)
   |_,_=>none
  |none=>none
 |_=>none
def qp (P:Program)(T:TypeId)(j:Nat):Option (Nat×Nat):=
 match P.underlying T with
 |some (.array _ e)=>match P.info? e with
  |some i=>if i.size=0 then none else some (j * i.size,i.size)
  |none=>none
 |_=>(qf P T j).map fun q=>(q.1,q.2.1)
def pok (P:Program)(T:TypeId):Bool:=
 match P.underlying T with
 |some (.pointer te)=>match P.info? te with|some j=>j.size != 0|none=>false
 |_=>false
def cmpK:QK→Bool
 |.bool=>true
 |.int _=>true
 |.str=>true
 |_=>false
def flatF (P:Program):Nat→List Field→Bool
 |_,[]=>true
 |i,f::fs=>f.name != "_" && f.offset == i && cmpK (qi P f.type).k && flatF P (i+1) fs
def ek (P:Program)(T:TypeId):Option (List QK):=
 match P.underlying T with
 |some (.struct fs)=>if (!P.stoodInHeld T && !P.eqGuardType P.depth T && flatF P 0 fs.toList)=true then some (fs.toList.map fun f=>(qi P f.type).k)else none
 |some (.array n e)=>if (!P.eqGuardType P.depth T && cmpK (qi P e).k && P.cellsOf e == 1)=true then some (List.replicate n (qi P e).k)else none
 |_=>none
def eq1:QK→VV→VV→Option Bool
 |.int _,.int p a,.int q b=>if p=q then some (decide (a=b))else none
 |.str,.str a,.str b=>some (decide (a=b))
 |.bool,.bool a,.bool b=>some (a == b)
 |_,_,_=>none
def eqF:List QK→List VV→List VV→Option Bool
 |[],[],[]=>some true
 |k::ks,x::xs,y::ys=>(eq1 k x y).bind fun r=>(eqF ks xs ys).map (r && ·)
 |_,_,_=>none
def vagq (P:Program)(T:TypeId)(xs ys:List VV):Option Bool:=(ek P T).bind fun ks=>eqF ks xs ys
def cvok (P:Program)(src dst T:TypeId)(n off:Nat):Bool:=
 match P.underlying src,P.underlying dst with
 |some (.pointer t),some .unsafePointer=>(match P.info? t with|some j=>j.size != 0|none=>false) && decide (off<n)
 |some .unsafePointer,some (.pointer u)=>(P.info? u).isSome && liesAt P P.depth T (n / P.cellsOf T) off u 1
 |_,_=>false
inductive SEnd where
 |ret (x:VV)
 |panic (x:VV)
def RE (G:Gh):Ending→SEnd→Prop
 |.returned v,.ret x=>R G v x
 |.panicked ch,.panic x=>∃v,ch=[{ v:=v,recovered:=false }]∧R G v x
 |_,_=>False
def RL (G:Gh)(vs:Array Value)(xs:List VV):Prop:=vs.size=xs.length∧∀(j:Nat) (v:Value) (y:VV),vs[j]?=some v→xs[j]?=some y→R G v y
def SCalls (P:Program)(f:FuncId)(xs:List VV)(s:St)(Q:SEnd→St→Prop):Prop:=
 ∀(w0:World) (G:Gh) (w:World) (vs:Array Value),Sim w0 G w s→RL G vs xs →
  Calls P f vs w fun e w'=>∃(G':Gh) (s':St) (x:SEnd),G.le G'∧Sim w0 G' w' s'∧RE G' e x∧Q x s'
def Callable (P:Program)(f:FuncId):Prop:=∀(args:Array Value) (w:World),(callFunc f args).run P w=.ok (.enter f args) w
def SExt (P:Program)(f:FuncId)(xs:List VV)(s:St)(Q:SEnd→St→Prop):Prop:=
 ∀(w0:World) (G:Gh) (w:World) (vs:Array Value),Sim w0 G w s→RL G vs xs →
  ∃(v:Value) (w':World) (G':Gh) (s':St) (y:VV),(callFunc f vs).run P w=.ok (.value v) w'∧G.le G'∧Sim w0 G' w' s'∧R G' v y∧Q (.ret y) s'
def SCallx (P:Program)(f:FuncId)(xs:List VV)(s:St)(Q:SEnd→St→Prop):Prop:=(Callable P f∧SCalls P f xs s Q)∨SExt P f xs s Q
def splice {α:Type}(cs:List α)(off:Nat)(xs:List α):List α:=cs.take off++xs++cs.drop (off+xs.length)
def partOf (cs:List VV)(off sz:Nat)(agg:Bool):Option VV:=
 if off+sz≤cs.length then(if agg then some (.agg ((cs.drop off).take sz))else if sz=1 then cs[off]? else none)else none
def New (s:St)(b:Nat):Prop:=s b=.free∧∀x,s x≠.free→x<b
def vload (q:QI)(a:VV)(s:St):Option VV:=
 match a with
 |.eptr cs=>partOf cs 0 q.sz q.k.agg
 |.ptr b off=>
  match s b with
  |.obj _ xs=>partOf xs off q.sz q.k.agg
  |.pk _ xs _=>partOf xs off q.sz q.k.agg
  |.row _ _ xs=>partOf xs off q.sz q.k.agg
  |_=>none
 |_=>none
def keepR (off n:Nat)(rs:List (Nat×TypeId×Nat)):List (Nat×TypeId×Nat):=rs.filter fun r=>decide (r.1<off) || decide (off+n≤r.1)
def vstore (q:QI)(a x:VV)(s:St):Option St:=
 match a with
 |.ptr b off=>
  match s b with
  |.obj T xs=>if x.cells.length=q.sz∧0<q.sz∧off+q.sz≤xs.length∧x.cells.all VV.one=true then some (s.set b (.obj T (splice xs off x.cells)))else none
  |.pk T xs rs=>if x.cells.length=q.sz∧0<q.sz∧off+q.sz≤xs.length∧x.cells.all VV.one=true then some (s.set b (.pk T (splice xs off x.cells) (keepR off q.sz rs)))else none
  |.row T sz xs=>if x.cells.length=q.sz∧0<q.sz∧off+q.sz≤xs.length∧x.cells.all VV.one=true then some (s.set b (.row T sz (splice xs off x.cells)))else none
  |_=>none
 |_=>none
def vfill (P:Program)(T:TypeId)(cs:List VV):List (Nat×VV)→Option (List VV)
 |[]=>some cs
 |(j,x)::rest=>
  match qp P T j with
  |some (off,sz)=>if x.cells.length=sz∧off+sz≤cs.length∧x.cells.all VV.one=true then vfill P T (splice cs off x.cells) rest else none
  |none=>none
def vrow (sz:Nat):Nat→List (Nat×VV)→Option (List (List VV))
 |_,[]=>some []
 |i,(j,x)::rest=>if j=i∧x.cells.length=sz∧x.cells.all VV.one=true then(vrow sz (i+1) rest).map (x.cells::·)else none
def vidx (q:QI)(sz:Nat)(x i:VV):Option VV:=
 match q.k,x,i with
 |.slice _,.lst xs _,.int _ n=>if 0≤n then(xs[n.toNat]?).bind fun cs=>if cs.length=sz∧0<sz then some (.eptr cs)else none else none
 |.slice _,.msl b m,.int _ n=>if 0≤n∧n.toNat<m∧sz=1 then some (.ptr b n.toNat)else none
 |.slice _,.mrw b m,.int _ n=>if 0≤n∧n.toNat<m∧0<sz then some (.ptr b (n.toNat * sz))else none
 |.array m _,.ptr b off,.int _ n=>if 0≤n∧n.toNat<m∧0<sz then some (.ptr b (off+n.toNat * sz))else none
 |.array m _,.eptr cs,.int _ n=>if 0≤n∧n.toNat<m∧0<sz then some (.eptr (cs.drop (n.toNat * sz)))else none
 |_,_,_=>none
def vat (q qe:QI)(x i:VV):Option VV:=
 match q.k,x,i with
 |.str,.str l,.int _ n=>if 0≤n then(l[n.toNat]?).map fun c=>.int .u8 (c.toNat:Int)else none
 |.array m _,.agg xs,.int _ n=>if 0≤n∧n.toNat<m∧qe.sz=1∧qe.k.agg=false then xs[n.toNat]? else none
 |_,_,_=>none
def vbound (x:Option VV)(dflt:Nat):Option Nat:=
 match x with
 |none=>some dflt
 |some (.int _ n)=>if 0≤n then some n.toNat else none
 |some _=>none
def vslice (q qe:QI)(x:VV)(lo hi:Option VV):Option VV:=
 match q.k,x with
 |.str,.str l=>
  match vbound lo 0,vbound hi l.length with
  |some a,some b=>if a≤b∧b≤l.length then some (.str ((l.take b).drop a))else none
  |_,_=>none
 |.slice _,.lst xs _=>
  match vbound lo 0,vbound hi xs.length with
  |some a,some b=>if a≤b∧b≤xs.length∧0<qe.sz∧(∀x,x∈xs→x.length=qe.sz)then some (.lst ((xs.take b).drop a) .no)else none
  |_,_=>none
 |.slice _,.mrw g n=>
  match vbound lo 0,vbound hi n with
  |some a,some b=>if a=0∧b≤n∧0<qe.sz then some (.mrw g b)else none
  |_,_=>none
 |_,_=>none
def bAnd (k:IntKind)(a b:Int):Int:=k.wrap ((BitVec.ofInt k.bits a &&& BitVec.ofInt k.bits b).toNat:Int)
def bOr (k:IntKind)(a b:Int):Int:=k.wrap ((BitVec.ofInt k.bits a ||| BitVec.ofInt k.bits b).toNat:Int)
def bXor (k:IntKind)(a b:Int):Int:=k.wrap ((BitVec.ofInt k.bits a ^^^ BitVec.ofInt k.bits b).toNat:Int)
def bAndNot (k:IntKind)(a b:Int):Int:=k.wrap ((BitVec.ofInt k.bits a &&& ~~~ BitVec.ofInt k.bits b).toNat:Int)
def isSh:BinOp→Bool
 |.shl=>true
 |.shr=>true
 |_=>false
def vint (op:BinOp)(k:IntKind)(a b:Int):Option VV:=
 match op with
 |.quo=>if b≠0 then some (.int k (k.wrap (a.tdiv b)))else none
 |.rem=>if b≠0 then some (.int k (a.tmod b))else none
 |.and=>some (.int k (bAnd k a b))
 |.or=>some (.int k (bOr k a b))
 |.xor=>some (.int k (bXor k a b))
 |.andNot=>some (.int k (bAndNot k a b))
 |.shl=>if 0≤b then some (.int k (k.wrap (a * 2 ^ (min b.toNat k.bits))))else none
 |.shr=>if 0≤b then some (.int k (a.fdiv (2 ^ (min b.toNat k.bits))))else none
 |.add=>some (.int k (k.wrap (a+b)))
 |.sub=>some (.int k (k.wrap (a - b)))
 |.mul=>some (.int k (k.wrap (a * b)))
 |.eql=>some (.bool (decide (a=b)))
 |.neq=>some (.bool !(decide (a=b)))
 |.lss=>some (.bool (decide (a<b)))
 |.leq=>some (.bool (decide (a≤b)))
 |.gtr=>some (.bool (decide (b<a)))
 |.geq=>some (.bool (decide (b≤a)))
def ownLit:Nat→Own
 |0=>.no
 |_+1=>.full
def unbytes:List (List VV)→Option (List UInt8)
 |[]=>some []
 |[.int .u8 n]::r=>if 0≤n∧n<256 then(unbytes r).map (UInt8.ofNat n.toNat::·)else none
 |_=>none
def isU8:QK→Bool
 |.int .u8=>true
 |_=>false
def vconv (P:Program)(src dst:TypeId)(x:VV)(s:St):Option VV:=
 match x with
 |.lst xs _=>match (qi P src).k,(qi P dst).k with|.slice e,.str=>if isU8 (qi P e).k=true then(unbytes xs).map .str else none|_,_=>none
 |.int _ n=>match (qi P src).k,(qi P dst).k with|.int _,.int k'=>some (.int k' (k'.wrap n))|_,_=>none
 |.ptr b off=>match s b with|.obj T xs=>if cvok P src dst T xs.length off=true then some (.ptr b off)else none|_=>none
 |_=>none
def vlen (q:QI)(x:VV)(s:St):Option VV:=
 match q.k,x with
 |.str,.str l=>some (.int .i64 l.length)
 |.slice _,.lst xs _=>some (.int .i64 xs.length)
 |.slice _,.msl _ n=>some (.int .i64 n)
 |.slice _,.mrw _ n=>some (.int .i64 n)
 |.slice _,.raw (.slice none 0 0)=>some (.int .i64 0)
 |.map _ _,.mp b=>
  match s b with
  |.map es=>some (.int .i64 es.length)
  |_=>none
 |_,_=>none
def vminmax (mx:Bool)(x y:VV):Option VV:=
 match x,y with
 |.int k a,.int k' b=>if k=k' then some (.int k (if mx then(if a<b then b else a)else(if b<a then b else a)))else none
 |_,_=>none
def keyEq (a b:VV):Option Bool:=
 match a,b with
 |.str x,.str y=>some (decide (x=y))
 |.int k x,.int k' y=>if k=k' then some (decide (x=y))else none
 |_,_=>none
def mget (k:VV):List (VV×VV)→Option (Option VV)
 |[]=>some none
 |e::r=>
  match keyEq k e.1 with
  |some true=>some (some e.2)
  |some false=>mget k r
  |none=>none
def mput (k x:VV):List (VV×VV)→Option (List (VV×VV))
 |[]=>some [(k,x)]
 |e::r=>
  match keyEq k e.1 with
  |some true=>some ((k,x)::r)
  |some false=>(mput k x r).map (e::·)
  |none=>none
def vzero (q:QI):Option VV:=if q.zok then(if q.k.agg then some (.agg q.z)else q.z[0]?)else none
def kfit (k:QK)(x:VV):Bool:=
 match k,x with
 |.str,.str _=>true
 |.int _,.int _ _=>true
 |_,_=>false
def vlookup (q:QI)(qe:QI)(qk:QI)(m k:VV)(ok:Bool)(s:St):Option VV:=
 match q.k,m with
 |.map _ _,.mp b=>
  match s b,kfit qk.k k with
  |.map es,true=>
   match mget k es with
   |some (some x)=>some (if ok then .tup [x,.bool true] else x)
   |some none=>(vzero qe).map fun z=>if ok then .tup [z,.bool false] else z
   |none=>none
  |_,_=>none
 |_,_=>none
def vupdate (q:QI)(qk:QI)(m k x:VV)(s:St):Option St:=
 match q.k,m with
 |.map _ _,.mp b=>
  match s b,kfit qk.k k with
  |.map es,true=>(mput k x es).map fun es'=>s.set b (.map es')
  |_,_=>none
 |_,_=>none
section
variable (P : Program) (N : Nat) (all : List Oper) (K : Env → St → Prop) (E : VV → Env → St → Prop)
def elemT (q:QI):TypeId:=match q.k with|.slice e=>e|.array _ e=>e|.map _ e=>e|_=>0
def keyT (q:QI):TypeId:=match q.k with|.map k _=>k|_=>0
def vappend (k:VV→St→Prop)(e:TypeId)(q:QI)(xs ys:List (List VV))(o:Own)(s:St):Prop:=
 (xs.length+ys.length) * q.bt≤140737488355328∧xs.length+ys.length≤9223372036854775807∧(∀y,y∈ys→y.length=q.sz)∧q.zok=true ∧
 match o with
 |.no=>False
 |.full=>(∀x,x∈xs→x.length=q.sz)∧(ys=[]→k (.lst xs .full) s) ∧
   (ys≠[]→∀b,s b=.free→k (.lst (xs++ys) (.at_ b)) (s.set b (.vec e q.sz (xs.length+ys.length))))
 |.at_ b=>s b=.vec e q.sz xs.length∧∀b',b'=b∨s b'=.free→k (.lst (xs++ys) (.at_ b')) ((s.set b .free).set b' (.vec e q.sz (xs.length+ys.length)))
def vappendM (k:VV→St→Prop)(e:TypeId)(q:QI)(b n:Nat)(ys:List (List VV))(s:St):Prop:=
 ∃xs,s b=.row e q.sz xs∧xs.length=n * q.sz∧(n+ys.length) * q.bt≤140737488355328∧n+ys.length≤9223372036854775807∧(∀y,y∈ys→y.length=q.sz)∧q.zok=true ∧
  ∀b',b'=b∨s b'=.free→k (.mrw b' (n+ys.length)) ((s.set b .free).set b' (.row e q.sz (xs++ys.flatten)))
def vappend0 (k:VV→St→Prop)(e:TypeId)(q:QI)(ys:List (List VV))(s:St):Prop:=
 ys≠[]∧ys.length * q.bt≤140737488355328∧ys.length≤9223372036854775807∧(∀y,y∈ys→y.length=q.sz)∧q.zok=true ∧
  ∀b',s b'=.free→k (.mrw b' ys.length) (s.set b' (.row e q.sz ys.flatten))
def vcall (d:Option Tmp)(rest:Env→St→Prop)(env:Env)(s:St)(f:VV)(xs:List VV):Prop:=
 ∃(g:FuncId) (caps:List VV) (Q:SEnd→St→Prop),f=.fn g caps∧SCallx P g (xs++caps) s Q ∧
  (∀x s',Q (.ret x) s'→rest (put N env d x) s')∧(∀x s',Q (.panic x) s'→E x env s')
def optB {α:Type}(k:α→Prop):Option α→Prop
 |some x=>k x
 |none=>False
def _root_.Go.Operand.isConst:Operand→Bool
 |.const _=>true
 |_=>false
def nilB:QK→VV→VV→Option Bool
 |.iface,.iface _ _,.raw .nilIface=>some false
 |.iface,.raw .nilIface,.raw .nilIface=>some true
 |.ptr,.ptr _ _,.raw (.pointer none)=>some false
 |.ptr,.eptr _,.raw (.pointer none)=>some false
 |.ptr,.raw (.pointer none),.raw (.pointer none)=>some true
 |.map _ _,.mp _,.raw (.map none)=>some false
 |.map _ _,.raw (.map none),.raw (.map none)=>some true
 |_,_,_=>none
def mutT (T:TypeId):Bool:=false
def mutL (T:TypeId)(p:String):Bool:=mutT T && (false)
def vstep (o:Oper)(rest:Env→St→Prop)(env:Env)(s:St):Prop:=
  match o.op with
  |.move x=>rest (put N env o.dst (rd env x)) s
  |.assign x=>rest (put N env o.dst (rd env x)) s
  |.pick c a b=>match rd env c with|.bool t=>rest (put N env o.dst (if t then rd env a else rd env b)) s|_=>False
  |.alloc T=>(qi P T).zok=true∧∀b,New s b→rest (put N env o.dst (.ptr b 0)) (s.set b (.obj T (qi P T).z))
  |.box T x=>(rd env x).cells.all VV.one=true∧∀b,New s b→rest (put N env o.dst (.ptr b 0)) (s.set b (.obj T (rd env x).cells))
  |.build T parts=>fok P T=true∧(qi P T).zok=true∧optB (fun cs=>rest (put N env o.dst (.agg cs)) s) (vfill P T (qi P T).z (parts.toList.map fun p=>(p.1,rd env p.2)))
  |.buildSlice T len parts=>parts.size=len∧(qi P (elemT (qi P T))).zok=true∧len * (qi P (elemT (qi P T))).sz≤16777216∧(match (qi P T).k with|.slice _=>True|_=>False) ∧
      optB (fun xs=>if mutL T o.pos=true then 0<len∧∀b,s b=.free→rest (put N env o.dst (.mrw b len)) (s.set b (.row (elemT (qi P T)) (qi P (elemT (qi P T))).sz xs.flatten))else rest (put N env o.dst (.lst xs (ownLit len))) s) (vrow (qi P (elemT (qi P T))).sz 0 (parts.toList.map fun p=>(p.1,rd env p.2)))
  |.load T a=>optB (fun x=>rest (put N env o.dst x) s) (vload (qi P T) (rd env a) s)
  |.store T a x=>optB (fun s'=>rest (put N env o.dst (.tup [])) s') (vstore (qi P T) (rd env a) (rd env x) s)
  |.nilCheck x=>(match rd env x with|.ptr _ _=>True|.eptr _=>True|.fn _ _=>True|.mp _=>True|_=>False)∧rest (put N env o.dst (rd env x)) s
  |.binOp op T x y _=>
    match rd env x,rd env y with
    |.int k a,.int k' b=>(k=k'∨isSh op=true)∧optB (fun z=>rest (put N env o.dst z) s) (vint op k a b)
    |.str a,.str b=>
      (match op with
       |.add=>a.length+b.length≤9223372036854775807∧rest (put N env o.dst (.str (a++b))) s
       |.eql=>rest (put N env o.dst (.bool (decide (a=b)))) s
       |.neq=>rest (put N env o.dst (.bool !(decide (a=b)))) s
       |_=>False)
    |.bool a,.bool b=>(match (qi P T).k with|.bool=>True|_=>False) ∧
      (match op with
       |.eql=>rest (put N env o.dst (.bool (a == b))) s
       |.neq=>rest (put N env o.dst (.bool !(a == b))) s
       |_=>False)
    |.ptr b i,.ptr b' j=>pok P T=true∧b=b'∧i=j ∧
      (match op with
       |.eql=>rest (put N env o.dst (.bool true)) s
       |.neq=>rest (put N env o.dst (.bool false)) s
       |_=>False)
    |.agg xs,.agg ys=>
      (match op with
       |.eql=>optB (fun b=>rest (put N env o.dst (.bool b)) s) (vagq P T xs ys)
       |.neq=>optB (fun b=>rest (put N env o.dst (.bool !b)) s) (vagq P T xs ys)
       |_=>False)
    |x',y'=>y.isConst=true ∧
      (match op with
       |.eql=>optB (fun b=>rest (put N env o.dst (.bool b)) s) (nilB (qi P T).k x' y')
       |.neq=>optB (fun b=>rest (put N env o.dst (.bool !b)) s) (nilB (qi P T).k x' y')
       |_=>False)
  |.convert src dst x=>optB (fun z=>rest (put N env o.dst z) s) (vconv P src dst (rd env x) s)
  |.unOp op _ x=>
    match op,rd env x with
    |.not,.bool b=>rest (put N env o.dst (.bool !b)) s
    |.neg,.int k n=>rest (put N env o.dst (.int k (k.wrap (0 - n)))) s
    |_,_=>False
  |.fieldAddr T x j=>
    match rd env x,qf P T j with
    |.eptr cs,some (off,_,_)=>off≤cs.length∧rest (put N env o.dst (.eptr (cs.drop off))) s
    |.ptr b o',some (off,_,_)=>rest (put N env o.dst (.ptr b (o'+off))) s
    |_,_=>False
  |.field T x j=>
    match rd env x,qf P T j with
    |.agg cs,some (off,sz,ag)=>optB (fun z=>rest (put N env o.dst z) s) (partOf cs off sz ag)
    |_,_=>False
  |.indexAddr T x i=>optB (fun z=>rest (put N env o.dst z) s) (vidx (qi P T) (qi P (elemT (qi P T))).sz (rd env x) (rd env i))
  |.index T x i=>optB (fun z=>rest (put N env o.dst z) s) (vat (qi P T) (qi P (elemT (qi P T))) (rd env x) (rd env i))
  |.slice T x lo hi mx=>mx=none∧optB (fun z=>rest (put N env o.dst z) s) (vslice (qi P T) (qi P (elemT (qi P T))) (rd env x) (lo.map (rd env)) (hi.map (rd env)))
  |.makeInterface T x=>(match (qi P T).k with|.iface=>False|.other=>False|_=>True)∧rest (put N env o.dst (.iface T (rd env x))) s
  |.makeFunc (.func f) fs caps=>fs=#[]∧rest (put N env o.dst (.fn f (caps.toList.map (rd env)))) s
  |.makeSlice T l c=>
    match rd env l,rd env c,(qi P (elemT (qi P T))).z with
    |.int _ n,.int _ m,[z]=>n=m∧0≤n∧n * (qi P (elemT (qi P T))).bt≤140737488355328∧n≤140737488355328∧(match (qi P T).k with|.slice _=>True|_=>False)∧(qi P (elemT (qi P T))).zok=true ∧
      ∀b,New s b→rest (put N env o.dst (.msl b n.toNat)) (s.set b (.obj (elemT (qi P T)) (List.replicate n.toNat z)))
    |.int _ n,.int _ m,z1::z2::zs=>n=m∧0<n∧n * (qi P (elemT (qi P T))).bt≤140737488355328∧n * (qi P (elemT (qi P T))).sz≤140737488355328∧(match (qi P T).k with|.slice _=>True|_=>False)∧(qi P (elemT (qi P T))).zok=true ∧
      ∀b,New s b→rest (put N env o.dst (.mrw b n.toNat)) (s.set b (.row (elemT (qi P T)) (qi P (elemT (qi P T))).sz (List.replicate n.toNat (z1::z2::zs)).flatten))
    |_,_,_=>False
  |.makeMap _ none=>∀b,New s b→rest (put N env o.dst (.mp b)) (s.set b (.map []))
  |.lookup T m k ok=>optB (fun z=>rest (put N env o.dst z) s) (vlookup (qi P T) (qi P (elemT (qi P T))) (qi P (keyT (qi P T))) (rd env m) (rd env k) ok s)
  |.mapUpdate T m k x=>optB (fun s'=>rest (put N env o.dst (.tup [])) s') (vupdate (qi P T) (qi P (keyT (qi P T))) (rd env m) (rd env k) (rd env x) s)
  |.insert T m k x=>optB (fun s'=>rest (put N env o.dst (.tup [])) s') (vupdate (qi P T) (qi P (keyT (qi P T))) (rd env m) (rd env k) (rd env x) s)
  |.extract t i=>match rd env t with|.tup xs=>optB (fun z=>rest (put N env o.dst z) s) xs[i]?|_=>False
  |.typeAssert x _ T ok=>ok=true∧(match (qi P T).k with|.iface=>False|.other=>False|_=>True)∧(match rd env x with|.iface T' y=>T'=T∧rest (put N env o.dst (.tup [y,.bool true])) s|_=>False)
  |.panic x=>match rd env x with|.iface T y=>E (.iface T y) env s|_=>False
  |.call c=>
    match c.callee with
    |.value f=>vcall P N E o.dst rest env s (rd env f) (c.args.toList.map (rd env))
    |.builtin .len=>match c.args.toList,c.argTypes.toList with|[x],[T]=>optB (fun z=>rest (put N env o.dst z) s) (vlen (qi P T) (rd env x) s)|_,_=>False
    |.builtin .min=>match c.args.toList with|[x,y]=>optB (fun z=>rest (put N env o.dst z) s) (vminmax false (rd env x) (rd env y))|_=>False
    |.builtin .max=>match c.args.toList with|[x,y]=>optB (fun z=>rest (put N env o.dst z) s) (vminmax true (rd env x) (rd env y))|_=>False
    |.builtin .append=>
      match c.args.toList,c.argTypes.toList with
      |[x,y],[T,T']=>
        (match (qi P T).k with|.slice _=>True|_=>False) ∧
        (match rd env x, rd env y with
         |.lst xs ox,.lst ys _=>T=T'∧vappend (fun z s'=>rest (put N env o.dst z) s') (elemT (qi P T)) (qi P (elemT (qi P T))) xs ys ox s
         |.mrw b n,.lst ys _=>T=T'∧vappendM (fun z s'=>rest (put N env o.dst z) s') (elemT (qi P T)) (qi P (elemT (qi P T))) b n ys s
         |.raw (.slice none 0 0),.lst ys _=>T=T'∧vappend0 (fun z s'=>rest (put N env o.dst z) s') (elemT (qi P T)) (qi P (elemT (qi P T))) ys s
         |.lst xs ox,.str l=>(qi P T').k.isStr=true∧vappend (fun z s'=>rest (put N env o.dst z) s') (elemT (qi P T)) (qi P (elemT (qi P T))) xs (bytesV l) ox s
         |_,_=>False)
      |_,_=>False
    |_=>False
  |_=>False
def vskip (o:Oper)(rest:Env→St→Prop)(env:Env)(s:St):Prop:=rest (put N env o.dst (.tup [])) s
def yv (all:List Oper)(env:Env)(j:Nat):VV:=match (all[j]?).bind (·.dst)with|some t=>env t|none=>.tup []
def vguard (g:VV)(want:Bool)(run skip:Prop):Prop:=
 match g with
 |.bool b=>if b=want then run else skip
 |.tup _=>skip
 |_=>False
def vops:List Oper→Env→St→Prop
 |[],env,s=>K env s
 |o::rest,env,s=>
  match o.guard with
  |none=>vstep P N E o (fun env s=>vops rest env s) env s
  |some (j,want)=>vguard (yv all env j) want (vstep P N E o (fun env s=>vops rest env s) env s) (vskip N o (fun env s=>vops rest env s) env s)
end
structure FR (N:Nat) (G:Gh) (tmps:Array Value) (env:Env):Prop where
 size:tmps.size=N
 rel:∀i,R G (tmps.getD i undef) (env i)
theorem FR.mono {N:Nat}{G G':Gh}{tmps:Array Value}{env:Env}(h:FR N G tmps env)(hG:G.le G'):FR N G' tmps env:=
 ⟨h.size,fun i=>(h.rel i).mono hG⟩
theorem FR.eval {N:Nat}{G:Gh}{a:Act}{env:Env}(h:FR N G a.tmps env)(x:Operand):R G (a.eval x) (rd env x):=by
 cases x with
 |tmp t=>exact h.rel t
 |const v=>exact R.cv G v
 |global g=>exact .raw _
 |func f=>exact .fn f #[] [] rfl (fun j v y hv=>by simp at hv)
theorem FR.put {N:Nat}{G:Gh}{a:Act}{env:Env}(h:FR N G a.tmps env)(d:Option Tmp){v:Value}{x:VV}(hv:R G v x) :
  FR N G (a.put d v).tmps (put N env d x):=by
 cases d with
 |none=>exact h
 |some t=>
  refine⟨by simp[Act.put,h.size],fun i=>?_⟩
  simp only[Act.put,Go.Proofs.YtgdbgfjhenobdaaGreatDoor.put]
  by_cases ht:t<N
  ·rw[if_pos ht]
   unfold upd
   by_cases hi:i=t
   ·subst hi
    rw[if_pos rfl]
    have:(a.tmps.setIfInBounds i v).getD i undef=v:=by
     have:=h.size
     simp[Array.getD,this,ht]
    rw[this];exact hv
   ·rw[if_neg hi]
    have:(a.tmps.setIfInBounds t v).getD i undef=a.tmps.getD i undef:=by
     simp[Array.getD_eq_getD_getElem?,Array.getElem?_setIfInBounds_ne (Ne.symm hi)]
    rw[this];exact h.rel i
  ·rw[if_neg ht]
   have:a.tmps.setIfInBounds t v=a.tmps:=by
    have:=h.size
    simp[Array.setIfInBounds,this,ht]
   rw[this];exact h.rel i
section
variable {P : Program} {N : Nat} {w0 w w' : World} {G G' : Gh} {s s' : St} {a : Act} {env : Env} {D : List Deferred} {k : Env → St → Prop} {E : VV → Env → St → Prop} {o : Oper}
def Nx (N:Nat)(w0:World)(G:Gh)(D:List Deferred)(k:Env→St→Prop):Act→World→Prop:=fun a w=>
 ∃(G':Gh) (env:Env) (s:St),G.le G'∧FR N G' a.tmps env∧a.defers=D∧Sim w0 G' w s∧k env s
def Px (N:Nat)(w0:World)(G:Gh)(D:List Deferred)(E:VV→Env→St→Prop):Exit→Act→World→Prop:=fun e a w=>
 ∃(G':Gh) (env:Env) (s:St) (v:Value) (x:VV),e=.panic [{ v:=v,recovered:=false }]∧R G' v x∧G.le G'∧FR N G' a.tmps env∧a.defers=D∧Sim w0 G' w s∧E x env s
theorem put_defers (a:Act)(d:Option Tmp)(v:Value):(a.put d v).defers=a.defers:=by cases d<;>rfl
theorem wp_value {v:Value}{x:VV}(hf:FR N G a.tmps env)(hD:a.defers=D)(hrun:(execOp a.eval o).run P w=.ok (.value v) w')
  (hG:G.le G') (hR:R G' v x) (hS:Sim w0 G' w' s') (hk:k (put N env o.dst x) s'):o.wp P a w (Nx N w0 G D k) (Px N w0 G D E):=by
 unfold Oper.wp
 rw[hrun]
 exact⟨G',_,s',hG,(hf.mono hG).put o.dst hR,(put_defers _ _ _).trans hD,hS,hk⟩
theorem wp_skip' (hf:FR N G a.tmps env)(hD:a.defers=D)(hrun:(execOp a.eval o).run P w=.ok .skip w')
  (hG:G.le G') (hS:Sim w0 G' w' s') (hk:k (put N env o.dst (.tup [])) s'):o.wp P a w (Nx N w0 G D k) (Px N w0 G D E):=by
 unfold Oper.wp
 rw[hrun]
 exact⟨G',_,s',hG,(hf.mono hG).put o.dst (.tup _ _ rfl (fun j v y hv=>by simp at hv)),(put_defers _ _ _).trans hD,hS,hk⟩
theorem exec_v {S:Sem Value}{v:Value}(h:S.run P w=.ok v w'):(do pure (Next.value (← S)):Sem Next).run P w=.ok (.value v) w':=by
 simp[h]
theorem qi_spec (T:TypeId)(h:(qi P T).sz≠0∨(qi P T).k≠.other∨(qi P T).zok=true) :
  ∃d i,P.underlying T=some d∧P.info? T=some i∧(qi P T).k=qkOf d∧(qi P T).sz=i.size∧(qi P T).bt=i.bytes:=by
 unfold qi at h ⊢
 cases hd:P.underlying T with
 |none=>simp[hd]at h
 |some d=>
  cases hi:P.info? T with
  |none=>simp[hd,hi]at h
  |some i=>exact⟨d,i,rfl,rfl,by cases hz:i.zero<;>simp[hz],by cases hz:i.zero<;>simp[hz],by cases hz:i.zero<;>simp[hz]⟩
theorem qi_zero (T:TypeId)(h:(qi P T).zok=true) :
  ∃d i z,P.underlying T=some d∧P.info? T=some i∧(qi P T).k=qkOf d∧(qi P T).sz=i.size∧(qi P T).bt=i.bytes∧i.zero=some z∧z.cells.size=i.size∧0<i.size ∧
   (∀v,v∈z.cells→v.oneCell'=true)∧((qkOf d).agg=!z.oneCell'∧notTup z=true)∧(qi P T).z=z.cells.toList.map cv:=by
 obtain⟨d,i,hd,hi,h1,h2,h3⟩:=qi_spec (P:=P) T (.inr (.inr h))
 unfold qi at h h1 h2 h3 ⊢
 simp only[hd,hi]at h h1 h2 h3 ⊢
 cases hz:i.zero with
 |none=>simp[hz]at h
 |some z=>
  simp only[hz]at h ⊢
  simp only[Bool.and_eq_true,beq_iff_eq,Array.all_eq_true,decide_eq_true_eq]at h
  obtain⟨⟨⟨⟨h1,h2⟩,h3⟩,h4⟩,h5⟩:=h
  refine⟨d,i,z,rfl,rfl,rfl,rfl,rfl,hz,h1,h4,fun v hv=>?_,⟨h3,h5⟩,rfl⟩
  obtain⟨j,hj,rfl⟩:=Array.mem_iff_getElem.1 hv
  exact h2 j hj
theorem run_isAgg {T:TypeId}{d:TypeDesc}(h:P.underlying T=some d):(isAgg T).run P w=.ok (qkOf d).agg w:=by
 unfold isAgg
 simp only[Sem.run_bind,run_underlying h,Result.andThen_ok]
 cases d<;>rfl
theorem run_sizeOf {T:TypeId}{i:TypeInfo}(h:P.info? T=some i):(sizeOf T).run P w=.ok i.size w:=by
 simp[sizeOf,typeInfo,h]
def Lies (G:Gh)(w:World)(b off:Nat)(cs:List VV):Prop:=
 ∀(j:Nat) (y:VV),cs[j]?=some y→y.one=true∧∃v,w.cell? ⟨b,off+j,none⟩=some v∧R G v y
theorem add_none (b off j:Nat):(⟨b,off,none⟩:Addr).add j=⟨b,off+j,none⟩:=by
 unfold Addr.add
 by_cases h:j=0<;>simp[h]
theorem run_part {T:TypeId}{b off:Nat}{cs:List VV}{x:VV}{o:Nat}(hL:Lies G w b off cs)(h:partOf cs o (qi P T).sz (qi P T).k.agg=some x) :
  ∃v,(loadVar T ⟨b,off+o,none⟩).run P w=.ok v w∧R G v x:=by
 unfold partOf at h
 split at h
 ·rename_i hle
  split at h
  ·rename_i hag
   obtain⟨d,i,hd,hi,hk,hs,_⟩:=qi_spec (P:=P) T (.inr (.inl (by intro e;rw[e]at hag;cases hag)))
   injection h with h
   subst h
   rw[hs]at hle ⊢
   have hcells:∀j,j<i.size→∃v,w.cell? ⟨b,off+o+j,none⟩=some v∧∀y,cs[o+j]?=some y→R G v y:=by
    intro j hj
    have hlt:o+j<cs.length:=by omega
    obtain⟨_,v,hv,hr⟩:=hL (o+j) cs[o+j] (List.getElem?_eq_getElem hlt)
    refine⟨v,by rw[← Nat.add_assoc]at hv;exact hv,fun y hy=>?_⟩
    rw[List.getElem?_eq_getElem hlt]at hy
    injection hy with hy
    exact hy ▸ hr
   let f:Nat→Value:=fun j=>(w.cell? ⟨b,off+o+j,none⟩).getD default
   have hf:∀j,j<i.size→w.cell? ((⟨b,off+o,none⟩:Addr).add j)=some (f j):=by
    intro j hj
    rw[add_none]
    obtain⟨v,hv,_⟩:=hcells j hj
    simp[f,hv]
   have hload:=run_loadCells (P:=P) (w:=w) ⟨b,off+o,none⟩ i.size f hf
   refine⟨.agg (Array.ofFn (n:=i.size) fun j=>f j),?_,?_⟩
   ·unfold loadVar
    rw[hk]at hag
    simp only[Sem.run_bind,run_isAgg hd,Result.andThen_ok,hag,if_true,run_sizeOf hi,Sem.run_pure]
    rw[hload]
    simp only[Result.andThen_ok,Result.ok.injEq,and_true,Value.agg.injEq]
    apply Array.ext_getElem?
    intro j
    simp[Array.getElem?_ofFn]
    by_cases hj:j<i.size<;>simp[hj]
   ·refine .agg _ _ (by simp;omega) (fun y hy=>?_) (fun j v y hv hy=>?_)
    ·obtain⟨j,hj⟩:=List.mem_iff_getElem?.1 hy
     rw[List.getElem?_take]at hj
     split at hj
     ·rw[List.getElem?_drop]at hj
      exact(hL _ _ hj).1
     ·cases hj
    ·rw[List.getElem?_take]at hy
     split at hy
     ·rename_i hj
      rw[List.getElem?_drop]at hy
      obtain⟨u,hu,hr⟩:=hcells j hj
      simp only[Array.getElem?_ofFn,hj,dite_true,Option.some.injEq]at hv
      subst hv
      have:f j=u:=by simp[f,hu]
      rw[this];exact hr y hy
     ·cases hy
  ·rename_i hag
   split at h
   ·rename_i h1
    obtain⟨d,i,hd,hi,hk,hs,_⟩:=qi_spec (P:=P) T (.inl (by omega))
    obtain⟨_,v,hv,hr⟩:=hL o x h
    refine⟨v,?_,hr⟩
    unfold loadVar
    rw[hk]at hag
    simp only[Sem.run_bind,run_isAgg hd,Result.andThen_ok,hag,Bool.false_eq_true,if_false,run_load,hv]
   ·cases h
 ·cases h
theorem Lies.of_eptr (hS:Sim w0 G w s){v:Value}{cs:List VV}(h:R G v (.eptr cs)):∃b off,v=.pointer (some ⟨b,off,none⟩)∧Lies G w b off cs:=by
 cases h with
 |eptr b off cs f h1 hK hR=>
  refine⟨b,off,rfl,fun j y hy=>⟨h1 y (List.mem_iff_getElem?.2 ⟨j,hy⟩),f j,hS.K _ _ _ (hK j ?_),hR j y hy⟩⟩
  exact(List.getElem?_eq_some_iff.1 hy).1
theorem Lies.of_obj (hS:Sim w0 G w s){b:Nat}{T:TypeId}{xs:List VV}(h:s b=.obj T xs):Lies G w b 0 xs:=by
 have ho:=hS.ok b
 rw[h]at ho
 obtain⟨_,_,c,e,_,hx⟩:=ho
 intro j y hy
 obtain⟨h1,v,hv,hr⟩:=hx j y hy
 exact⟨h1,v,by rw[Nat.zero_add,cell_of_row w b j c T (0,0) e];exact hv,hr⟩
theorem Lies.of_pk (hS:Sim w0 G w s){b:Nat}{T:TypeId}{xs:List VV}{rs:List (Nat×TypeId×Nat)}(h:s b=.pk T xs rs):Lies G w b 0 xs:=by
 have ho:=hS.ok b
 rw[h]at ho
 obtain⟨_,_,c,e,_,hx⟩:=ho
 intro j y hy
 obtain⟨h1,v,hv,hr⟩:=hx j y hy
 exact⟨h1,v,by rw[Nat.zero_add,cell_of_row w b j c T (0,0) e];exact hv,hr⟩
theorem Lies.of_rowC (hS:Sim w0 G w s){b:Nat}{T:TypeId}{sz:Nat}{xs:List VV}(h:s b=.row T sz xs):Lies G w b 0 xs:=by
 have ho:=hS.ok b
 rw[h]at ho
 obtain⟨_,_,c,cap,e,_,_,_,_,hx⟩:=ho
 intro j y hy
 obtain⟨h1,v,hv,hr⟩:=hx j y hy
 exact⟨h1,v,by rw[Nat.zero_add,cell_of_row w b j c T (0,0) e];exact hv,hr⟩
theorem run_vload {T:TypeId}{p:Value}{a x:VV}(hS:Sim w0 G w s)(hp:R G p a)(h:vload (qi P T) a s=some x) :
  ∃v,(Instr.loadAt T p).run P w=.ok v w∧R G v x:=by
 cases a with
 |eptr cs=>
  obtain⟨b,off,rfl,hL⟩:=Lies.of_eptr hS hp
  obtain⟨v,hv,hr⟩:=run_part (P:=P) (T:=T) (o:=0) hL h
  exact⟨v,by simpa [Instr.loadAt,Instr.sureAddr]using hv,hr⟩
 |ptr b off=>
  cases hp
  simp only[vload]at h
  split at h
  ·rename_i T' xs hb
   obtain⟨v,hv,hr⟩:=run_part (P:=P) (T:=T) (o:=off) (Lies.of_obj hS hb) h
   exact⟨v,by simpa [Instr.loadAt,Instr.sureAddr]using hv,hr⟩
  ·rename_i T' xs rs hb
   obtain⟨v,hv,hr⟩:=run_part (P:=P) (T:=T) (o:=off) (Lies.of_pk hS hb) h
   exact⟨v,by simpa [Instr.loadAt,Instr.sureAddr]using hv,hr⟩
  ·rename_i T' sz xs hb
   obtain⟨v,hv,hr⟩:=run_part (P:=P) (T:=T) (o:=off) (Lies.of_rowC hS hb) h
   exact⟨v,by simpa [Instr.loadAt,Instr.sureAddr]using hv,hr⟩
  ·cases h
 |_=>simp[vload]at h
theorem splice_get {α:Type}(cs xs:List α)(off i:Nat)(h:off+xs.length≤cs.length) :
  (splice cs off xs)[i]?=if off≤i∧i<off+xs.length then xs[i - off]? else cs[i]?:=by
 unfold splice
 have h1:(cs.take off).length=off:=by rw[List.length_take];omega
 rcases Nat.lt_or_ge i off with hlt|hge
 ·rw[if_neg (by omega),List.getElem?_append_left (by rw[List.length_append,h1];omega),List.getElem?_append_left (by omega),List.getElem?_take,if_pos hlt]
 ·rcases Nat.lt_or_ge i (off+xs.length)with hlt|hge'
  ·rw[if_pos ⟨hge,hlt⟩,List.getElem?_append_left (by rw[List.length_append,h1];omega),List.getElem?_append_right (by omega),h1]
  ·rw[if_neg (by omega),List.getElem?_append_right (by rw[List.length_append,h1];omega),List.length_append,h1,List.getElem?_drop]
   congr 1;omega
theorem splice_length {α:Type}(cs xs:List α)(off:Nat)(h:off+xs.length≤cs.length):(splice cs off xs).length=cs.length:=by
 unfold splice
 simp only[List.length_append,List.length_take,List.length_drop]
 omega
theorem cells_spec {v:Value}{x:VV}(h:R G v x)(h1:x.cells.all VV.one=true) :
  v.cells.size=x.cells.length∧(∀u,u∈v.cells→u.oneCell'=true)∧∀(j:Nat) (u:Value) (y:VV),v.cells[j]?=some u→x.cells[j]?=some y→R G u y:=by
 have key:∀(vs:Array Value) (xs:List VV),vs.size=xs.length→xs.all VV.one=true→(∀(j:Nat) (v:Value) (y:VV),vs[j]?=some v→xs[j]?=some y→R G v y) →
   ∀u,u∈vs→u.oneCell'=true:=by
  intro vs xs hs ha hR u hu
  obtain⟨j,hj,rfl⟩:=Array.mem_iff_getElem.1 hu
  have hlt:j<xs.length:=by omega
  rw[(hR j vs[j] xs[j] (Array.getElem?_eq_getElem hj) (List.getElem?_eq_getElem hlt)).one]
  exact List.all_eq_true.1 ha _ (List.getElem_mem hlt)
 cases x with
 |agg cs=>
  cases h with
  |agg vs xs hs _ hR=>exact⟨hs,key vs cs hs h1 hR,hR⟩
 |tup xs=>simp[VV.cells,VV.one]at h1
 |_=>
  have ho:=h.one
  rw[show VV.one _=true by simpa [VV.cells]using h1]at ho
  have hc:v.cells=#[v]:=by cases v<;>first|rfl|(simp[Value.oneCell']at ho)
  refine⟨by simp[hc,VV.cells],by simp[hc,ho],fun j u y hu hy=>?_⟩
  rw[hc]at hu
  cases j with
  |zero=>simp[VV.cells]at hu hy;subst hu;subst hy;exact h
  |succ j=>simp at hu
theorem run_vstore {T:TypeId}{p v:Value}{a x:VV}{s':St}(hS:Sim w0 G w s)(hp:R G p a)(hv:R G v x)(h:vstore (qi P T) a x s=some s') :
  ∃w',(Instr.storeAt T p v).run P w=.ok () w'∧Sim w0 G w' s':=by
 cases a with
 |ptr b off=>
  cases hp
  simp only[vstore]at h
  split at h
  ·rename_i T' xs hb
   split at h
   ·rename_i hc
    obtain⟨hlen,hpos,hle,hone⟩:=hc
    injection h with h
    subst h
    obtain⟨hsz,hcell,hrel⟩:=cells_spec hv hone
    have ho:=hS.ok b
    rw[hb]at ho
    obtain⟨hB,hn,c,e,hcs,hx⟩:=ho
    obtain⟨d,i,hd,hi,hk,hs,_⟩:=qi_spec (P:=P) T (.inl (by omega))
    have hst:=run_storeCells_at P b off T' v.cells.toList 0 c w e (by simp;omega) (fun u hu=>hcell u (by simpa using hu))
    have hw:off+x.cells.length≤xs.length:=by omega
    have hwc:off+v.cells.toList.length≤c.toList.length:=by simp;omega
    refine⟨_,?_,hS.set_obj hb (w.setRow b (splice c.toList off v.cells.toList).toArray) (splice c.toList off v.cells.toList).toArray
     ⟨rfl,rfl,rfl,by simp,fun k hk=>setRow_other w b k _ (by omega)⟩ (by simp) (setRow_heap w b c _ T' _ e) (fun k hk=>setRow_other w b k _ hk)
     (by rw[List.size_toArray,splice_length _ _ _ hwc,splice_length _ _ _ hw];simpa using hcs) (fun j y hy=>?_)⟩
    ·unfold Instr.storeAt storeVar
     simp only[Instr.sureAddr,Sem.run_bind,Sem.run_pure,Result.andThen_ok,run_sizeOf hi,Sem.run_ite]
     rw[if_neg (by rw[hsz,hlen,hs];simp)]
     simp only[Nat.add_zero]at hst
     simpa [splice]using hst
    ·rw[splice_get _ _ _ _ hw]at hy
     rw[List.getElem?_toArray,splice_get _ _ _ _ hwc]
     have hll:v.cells.toList.length=x.cells.length:=by simpa using hsz
     rw[hll]
     split at hy
     ·rename_i hin
      rw[if_pos hin]
      have hlt:j - off<v.cells.size:=by omega
      refine⟨List.all_eq_true.1 hone y (List.mem_iff_getElem?.2 ⟨_,hy⟩),v.cells[j - off],by simp[hlt],hrel _ _ y (Array.getElem?_eq_getElem hlt) hy⟩
     ·rename_i hin
      rw[if_neg hin]
      obtain⟨h1,u,hu,hr⟩:=hx j y hy
      exact⟨h1,u,by simpa using hu,hr⟩
   ·cases h
  ·rename_i T' xs rs hb
   split at h
   ·rename_i hc
    obtain⟨hlen,hpos,hle,hone⟩:=hc
    injection h with h
    subst h
    obtain⟨hsz,hcell,hrel⟩:=cells_spec hv hone
    have ho:=hS.ok b
    rw[hb]at ho
    obtain⟨hB,hn,c,e,hcs,hx⟩:=ho
    obtain⟨d,i,hd,hi,hk,hs,_⟩:=qi_spec (P:=P) T (.inl (by omega))
    have hst:=run_storeCells_at P b off T' v.cells.toList 0 c w e (by simp;omega) (fun u hu=>hcell u (by simpa using hu))
    have hw:off+x.cells.length≤xs.length:=by omega
    have hwc:off+v.cells.toList.length≤c.toList.length:=by simp;omega
    refine⟨_,?_,hS.set_pk hb (w.setRow b (splice c.toList off v.cells.toList).toArray) c (splice c.toList off v.cells.toList).toArray e
     ⟨rfl,rfl,rfl,by simp,fun k hk=>setRow_other w b k _ (by omega)⟩ (by simp) (setRow_heap w b c _ T' _ e) (fun k hk=>setRow_other w b k _ hk)
     (by rw[List.size_toArray,splice_length _ _ _ hwc,splice_length _ _ _ hw];simpa using hcs) (fun j y hy=>?_) (fun r hr=>?_)⟩
    ·unfold Instr.storeAt storeVar
     simp only[Instr.sureAddr,Sem.run_bind,Sem.run_pure,Result.andThen_ok,run_sizeOf hi,Sem.run_ite]
     rw[if_neg (by rw[hsz,hlen,hs];simp)]
     simp only[Nat.add_zero]at hst
     simpa [splice]using hst
    ·rw[splice_get _ _ _ _ hw]at hy
     rw[List.getElem?_toArray,splice_get _ _ _ _ hwc]
     have hll:v.cells.toList.length=x.cells.length:=by simpa using hsz
     rw[hll]
     split at hy
     ·rename_i hin
      rw[if_pos hin]
      have hlt:j - off<v.cells.size:=by omega
      refine⟨List.all_eq_true.1 hone y (List.mem_iff_getElem?.2 ⟨_,hy⟩),v.cells[j - off],by simp[hlt],hrel _ _ y (Array.getElem?_eq_getElem hlt) hy⟩
     ·rename_i hin
      rw[if_neg hin]
      obtain⟨h1,u,hu,hr⟩:=hx j y hy
      exact⟨h1,u,by simpa using hu,hr⟩
    ·simp only[keepR,List.mem_filter,Bool.or_eq_true,decide_eq_true_eq]at hr
     refine⟨hr.1,?_,?_⟩
     ·rw[splice_get _ _ _ _ hw,if_neg (by omega)]
     ·rw[List.getElem?_toArray,splice_get _ _ _ _ hwc,if_neg (by simp only[Array.length_toList];omega)];simp
   ·cases h
  ·rename_i T' sz xs hb
   split at h
   ·rename_i hc
    obtain⟨hlen,hpos,hle,hone⟩:=hc
    injection h with h
    subst h
    obtain⟨hsz,hcell,hrel⟩:=cells_spec hv hone
    have ho:=hS.ok b
    rw[hb]at ho
    obtain⟨hB,hn,c,cap,e,hq,hcs,hcl,hm,hx⟩:=ho
    obtain⟨d,i,hd,hi,hk,hs,_⟩:=qi_spec (P:=P) T (.inl (by omega))
    have hst:=run_storeCells_at P b off T' v.cells.toList 0 c w e (by simp;omega) (fun u hu=>hcell u (by simpa using hu))
    have hw:off+x.cells.length≤xs.length:=by omega
    have hwc:off+v.cells.toList.length≤c.toList.length:=by simp;omega
    refine⟨_,?_,hS.set_row hb (w.setRow b (splice c.toList off v.cells.toList).toArray) c (splice c.toList off v.cells.toList).toArray e
     ⟨rfl,rfl,rfl,by simp,fun k hk=>setRow_other w b k _ (by omega)⟩ (by simp) (setRow_heap w b c _ T' _ e) (fun k hk=>setRow_other w b k _ hk)
     (by rw[List.size_toArray,splice_length _ _ _ hwc];simp) (by rw[splice_length _ _ _ hw,hcs];exact hcl) (fun j y hy=>?_)⟩
    ·unfold Instr.storeAt storeVar
     simp only[Instr.sureAddr,Sem.run_bind,Sem.run_pure,Result.andThen_ok,run_sizeOf hi,Sem.run_ite]
     rw[if_neg (by rw[hsz,hlen,hs];simp)]
     simp only[Nat.add_zero]at hst
     simpa [splice]using hst
    ·rw[splice_get _ _ _ _ hw]at hy
     rw[List.getElem?_toArray,splice_get _ _ _ _ hwc]
     have hll:v.cells.toList.length=x.cells.length:=by simpa using hsz
     rw[hll]
     split at hy
     ·rename_i hin
      rw[if_pos hin]
      have hlt:j - off<v.cells.size:=by omega
      refine⟨List.all_eq_true.1 hone y (List.mem_iff_getElem?.2 ⟨_,hy⟩),v.cells[j - off],by simp[hlt],hrel _ _ y (Array.getElem?_eq_getElem hlt) hy⟩
     ·rename_i hin
      rw[if_neg hin]
      obtain⟨h1,u,hu,hr⟩:=hx j y hy
      exact⟨h1,u,by simpa using hu,hr⟩
   ·cases h
  ·cases h
 |_=>simp[vstore]at h
end
section
variable {P : Program} {N : Nat} {w0 w w' : World} {G G' : Gh} {s s' : St}
theorem foldl_splice (vs:List Value):∀(off:Nat) (cs:Array Value) (n:Nat),off+n+vs.length≤cs.size →
  ((vs.zipIdx n).foldl (fun cs (c,j)=>cs.setIfInBounds (off+j) c) cs).toList=splice cs.toList (off+n) vs:=by
 induction vs with
 |nil=>intro off cs n h;simp[splice]
 |cons v vs ih=>
  intro off cs n h
  simp only[List.length_cons]at h
  rw[List.zipIdx_cons,List.foldl_cons,ih off _ (n+1) (by simp;omega)]
  apply List.ext_getElem?
  intro i
  rw[splice_get _ _ _ _ (by simp;omega),splice_get _ _ _ _ (by simp;omega)]
  simp only[Array.toList_setIfInBounds,List.length_cons]
  by_cases h1:i=off+n
  ·subst h1
   rw[if_neg (by omega),if_pos (by omega)]
   have:off+n<cs.size:=by omega
   simp[this]
  ·by_cases h2:off+(n+1)≤i∧i<off+(n+1)+vs.length
   ·rw[if_pos h2,if_pos (by omega)]
    have:i - (off+n)=(i - (off+(n+1)))+1:=by omega
    rw[this];simp
   ·rw[if_neg h2,if_neg (by omega),List.getElem?_set_ne (by omega)]
def RLs (G:Gh)(vs:Array Value)(xs:List VV):Prop:=
 vs.size=xs.length∧(∀y,y∈xs→y.one=true)∧∀(j:Nat) (v:Value) (y:VV),vs[j]?=some v→xs[j]?=some y→R G v y
theorem RLs.splice {vs us:Array Value}{xs ys:List VV}{off:Nat}(h:RLs G vs xs)(h':RLs G us ys)(hle:off+ys.length≤xs.length) :
  RLs G (splice vs.toList off us.toList).toArray (splice xs off ys):=by
 have hv:vs.toList.length=xs.length:=by simpa using h.1
 have hu:us.toList.length=ys.length:=by simpa using h'.1
 refine⟨by rw[List.size_toArray,splice_length _ _ _ (by omega),splice_length _ _ _ hle,hv],fun y hy=>?_,fun j v y hvj hyj=>?_⟩
 ·obtain⟨j,hj⟩:=List.mem_iff_getElem?.1 hy
  rw[splice_get _ _ _ _ hle]at hj
  split at hj
  ·exact h'.2.1 y (List.mem_iff_getElem?.2 ⟨_,hj⟩)
  ·exact h.2.1 y (List.mem_iff_getElem?.2 ⟨_,hj⟩)
 ·rw[List.getElem?_toArray,splice_get _ _ _ _ (by omega),hu]at hvj
  rw[splice_get _ _ _ _ hle]at hyj
  split at hyj
  ·rename_i hin
   rw[if_pos hin]at hvj
   exact h'.2.2 _ v y (by simpa using hvj) hyj
  ·rename_i hin
   rw[if_neg hin]at hvj
   exact h.2.2 _ v y (by simpa using hvj) hyj
theorem RLs.of_cells {v:Value}{x:VV}(h:R G v x)(h1:x.cells.all VV.one=true):RLs G v.cells x.cells:=
 ⟨(cells_spec h h1).1,fun y hy=>List.all_eq_true.1 h1 y hy,(cells_spec h h1).2.2⟩
theorem RLs.zero {T:TypeId}(h:(qi P T).zok=true):∃z i d,P.info? T=some i∧P.underlying T=some d∧(qi P T).k=qkOf d∧(qi P T).sz=i.size∧i.zero=some z∧0<i.size∧z.cells.size=i.size ∧
  ((qkOf d).agg=!z.oneCell'∧notTup z=true)∧RLs G z.cells (qi P T).z:=by
 obtain⟨d,i,z,hd,hi,hk,hs,_,hz,hzs,hpos,hone,hag,hzz⟩:=qi_zero (P:=P) T h
 refine⟨z,i,d,hi,hd,hk,hs,hz,hpos,hzs,hag,by rw[hzz];simp,fun y hy=>?_,fun j v y hv hy=>?_⟩
 ·rw[hzz]at hy
  obtain⟨u,hu,rfl⟩:=List.mem_map.1 hy
  rw[← (R.cv G u).one]
  exact hone u (by simpa using hu)
 ·rw[hzz]at hy
  have:z.cells.toList[j]?=some v:=by simpa using hv
  rw[List.getElem?_map,this]at hy
  simp at hy
  exact hy ▸ R.cv G v
theorem run_fill {T:TypeId}(place:Nat→Option (Nat×Nat))(hpl:∀(j off sz:Nat),qp P T j=some (off,sz)→place j=some (off,sz)) :
  ∀(parts:List (Nat×VV)) (vps:List (Nat×Value)) (cs:List VV) (vs:Array Value) (cs':List VV),RLs G vs cs →
   vps.length=parts.length→(∀(i:Nat) (p:Nat×VV) (q:Nat×Value),parts[i]?=some p→vps[i]?=some q→p.1=q.1∧R G q.2 p.2) →
   vfill P T cs parts=some cs'→∃vs',Instr.fill place vs vps=some vs'∧RLs G vs' cs'
 |[],[],cs,vs,cs',h,_,_,hf=>by
  simp only[vfill,Option.some.injEq]at hf
  subst hf
  exact⟨vs,rfl,h⟩
 |(j,x)::parts,(j',v)::vps,cs,vs,cs',h,hl,hp,hf=>by
  obtain⟨e,hr⟩:=hp 0 _ _ rfl rfl
  simp only at e hr
  subst e
  simp only[vfill]at hf
  cases hq:qp P T j with
  |none=>simp[hq]at hf
  |some q=>
   obtain⟨off,sz⟩:=q
   simp only[hq]at hf
   split at hf
   ·rename_i hc
    obtain⟨h1,h2,h3⟩:=hc
    have hpj:=hpl j off sz hq
    have hcell:=RLs.of_cells hr h3
    have hsz:v.cells.size=sz:=hcell.1.trans h1
    have hlen:vs.size=cs.length:=h.1
    have hle:off+x.cells.length≤cs.length:=by omega
    have hstep:=foldl_splice v.cells.toList off vs 0 (by simp;omega)
    have h':=h.splice hcell hle
    simp only[Nat.add_zero]at hstep
    rw[← hstep,Array.toArray_toList]at h'
    obtain⟨vs',hv',hr'⟩:=run_fill place hpl parts vps _ _ cs' h' (by simpa using hl) (fun i p q hpi hqi=>hp (i+1) p q (by simpa using hpi) (by simpa using hqi)) hf
    refine⟨vs',?_,hr'⟩
    simp only[Instr.fill,hpj]
    rw[if_neg (by simp;omega)]
    rw[← hv',← Array.foldl_toList,Array.toList_zipIdx]
   ·cases hf
theorem run_mapM_places {fs:Array Field}(h:∀f,f∈fs→∃i,P.info? f.type=some i) :
  ∃places:Array (Nat×Nat),(fs.mapM (m:=Sem) fun f=>do pure (f.offset,← sizeOf f.type)).run P w=.ok places w ∧
   ∀(j:Nat) (f:Field),fs[j]?=some f→∃i:TypeInfo,P.info? f.type=some i∧places[j]?=some (f.offset,i.size):=by
 have key:∀(l:List Field),(∀f,f∈l→∃i,P.info? f.type=some i) →
   ∃ps:List (Nat×Nat),(l.mapM (m:=Sem) fun f=>do pure (f.offset,← sizeOf f.type)).run P w=.ok ps w ∧
    ∀(j:Nat) (f:Field),l[j]?=some f→∃i:TypeInfo,P.info? f.type=some i∧ps[j]?=some (f.offset,i.size):=by
  intro l
  induction l with
  |nil=>exact fun _=>⟨[],by simp,fun j f hj=>by simp at hj⟩
  |cons f l ih=>
   intro hl
   obtain⟨i,hi⟩:=hl f (List.mem_cons_self)
   obtain⟨ps,hps,hj⟩:=ih fun g hg=>hl g (List.mem_cons_of_mem _ hg)
   refine⟨(f.offset,i.size)::ps,?_,fun j g hg=>?_⟩
   ·simp only[List.mapM_cons,Sem.run_bind,run_sizeOf hi,Result.andThen_ok,Sem.run_pure,hps]
   ·cases j with
    |zero=>simp at hg;subst hg;exact⟨i,hi,rfl⟩
    |succ j=>simpa using hj j g (by simpa using hg)
 obtain⟨ps,hps,hj⟩:=key fs.toList (fun f hf=>h f (by simpa using hf))
 refine⟨ps.toArray,?_,fun j f hf=>by simpa using hj j f (by simpa using hf)⟩
 rw[Array.mapM_eq_mapM_toList]
 simp only[Sem.run_map,hps,Result.andThen_ok]
theorem run_build {T:TypeId}{parts:List (Nat×VV)}{vps:Array (Nat×Value)}{cs':List VV}(hz:(qi P T).zok=true)
  (hl:vps.size=parts.length) (hp:∀(i:Nat) (p:Nat×VV) (q:Nat×Value),parts[i]?=some p→vps[i]?=some q→p.1=q.1∧R G q.2 p.2)
  (h:vfill P T (qi P T).z parts=some cs') (hst:fok P T=true) :
  ∃vs',(Instr.build T vps).run P w=.ok (.agg vs') w∧RLs G vs' cs':=by
 obtain⟨z,i,d,hi,hd,hk,hs,hzz,hpos,hzs,hag,hrl⟩:=RLs.zero (P:=P) (G:=G) hz
 have hst':(∃fs,P.underlying T=some (.struct fs)∧∀f,f∈fs→∃i,P.info? f.type=some i)∨∃n e ie,P.underlying T=some (.array n e)∧P.info? e=some ie:=by
  unfold fok at hst
  split at hst
  ·rename_i fs ht
   refine .inl ⟨fs,ht,fun f hf=>?_⟩
   obtain⟨j,hj,rfl⟩:=Array.mem_iff_getElem.1 hf
   exact Option.isSome_iff_exists.1 (Array.all_eq_true.1 hst j hj)
  ·rename_i n e ht
   obtain⟨ie,hie⟩:=Option.isSome_iff_exists.1 hst
   exact .inr ⟨n,e,ie,ht,hie⟩
  ·cases hst
 rcases hst' with ⟨fs,ht,hfi⟩|⟨n,e,ie,ht,hie⟩
 ·obtain⟨places,hpl,hpj⟩:=run_mapM_places (P:=P) (w:=w) hfi
  have hplace:∀(j off sz:Nat),qp P T j=some (off,sz)→places[j]?=some (off,sz):=fun j off sz hq=>by
   unfold qp at hq
   simp only[ht]at hq
   obtain⟨q,hq,he⟩:=Option.map_eq_some_iff.1 hq
   unfold qf at hq
   simp only[ht]at hq
   cases hfj:fs[j]? with
   |none=>simp[hfj]at hq
   |some f=>
    simp only[hfj]at hq
    obtain⟨i,hi,hpp⟩:=hpj j f hfj
    cases hu:P.underlying f.type with
    |none=>simp[hu]at hq
    |some d=>
     simp only[hu,hi]at hq
     split at hq
     ·cases hq
     ·injection hq with hq
      subst hq
      simp only[Prod.mk.injEq]at he
      rw[hpp,← he.1,← he.2]
  obtain⟨vs',hv',hr'⟩:=run_fill (P:=P) (G:=G) (places[·]?) hplace parts vps.toList (qi P T).z z.cells cs' hrl (by simpa using hl)
   (fun i p q hpi hqi=>hp i p q hpi (by simpa using hqi)) h
  refine⟨vs',?_,hr'⟩
  unfold Instr.build
  simp only[Sem.run_bind,zeroValue,typeInfo,run_program,Result.andThen_ok,hi,Sem.run_pure,hzz,run_underlying ht,hpl,hv']
 ·have hplace:∀(j off sz:Nat),qp P T j=some (off,sz)→(fun i=>some (i * ie.size,ie.size)) j=some (off,sz):=fun j off sz hq=>by
   unfold qp at hq
   simp only[ht,hie]at hq
   split at hq
   ·cases hq
   ·exact hq
  obtain⟨vs',hv',hr'⟩:=run_fill (P:=P) (G:=G) (fun i=>some (i * ie.size,ie.size)) hplace parts vps.toList (qi P T).z z.cells cs' hrl (by simpa using hl)
   (fun i p q hpi hqi=>hp i p q hpi (by simpa using hqi)) h
  refine⟨vs',?_,hr'⟩
  unfold Instr.build
  simp only[Sem.run_bind,zeroValue,typeInfo,run_program,Result.andThen_ok,hi,Sem.run_pure,hzz,run_underlying ht,run_sizeOf hie,hv']
theorem vrow_spec {sz:Nat}:∀(parts:List (Nat×VV)) (i:Nat) (xs:List (List VV)),vrow sz i parts=some xs →
  xs.length=parts.length∧(∀x,x∈xs→x.length=sz)∧(∀x,x∈xs→∀y,y∈x→y.one=true) ∧
   ∀(j:Nat) (p:Nat×VV),parts[j]?=some p→p.1=i+j∧xs[j]?=some p.2.cells∧p.2.cells.all VV.one=true
 |[],i,xs,h=>by
  simp only[vrow,Option.some.injEq]at h
  subst h
  simp
 |(k,x)::parts,i,xs,h=>by
  simp only[vrow]at h
  split at h
  ·rename_i hc
   obtain⟨hk,hl,ho⟩:=hc
   cases hr:vrow sz (i+1) parts with
   |none=>simp[hr]at h
   |some ys=>
    simp only[hr,Option.map_some,Option.some.injEq]at h
    subst h
    obtain⟨h1,h2,h3,h4⟩:=vrow_spec parts (i+1) ys hr
    refine⟨by simp[h1],fun z hz=>?_,fun z hz=>?_,fun j p hj=>?_⟩
    ·rcases List.mem_cons.1 hz with rfl|hz
     ·exact hl
     ·exact h2 z hz
    ·rcases List.mem_cons.1 hz with rfl|hz
     ·exact fun y hy=>List.all_eq_true.1 ho y hy
     ·exact h3 z hz
    ·cases j with
     |zero=>simp at hj;subst hj;exact⟨hk,rfl,ho⟩
     |succ j=>
      obtain⟨a,b,c⟩:=h4 j p (by simpa using hj)
      exact⟨by omega,by simpa using b,c⟩
  ·cases h
theorem run_fillRow {sz:Nat}:∀(parts:List (Nat×VV)) (vps:List (Nat×Value)) (i:Nat) (xs:List (List VV)) (cs:Array Value),vrow sz i parts=some xs →
  vps.length=parts.length→(∀(i:Nat) (p:Nat×VV) (q:Nat×Value),parts[i]?=some p→vps[i]?=some q→p.1=q.1∧R G q.2 p.2) →
  (i+parts.length) * sz≤cs.size →
  ∃vs:Array Value,Instr.fill (fun i=>some (i * sz,sz)) cs vps=some vs∧vs.size=cs.size∧(∀k,k<i * sz→vs[k]?=cs[k]?) ∧
   ∀(j m:Nat) (x:List VV) (y:VV),xs[j]?=some x→x[m]?=some y→∃v,vs[(i+j) * sz+m]?=some v∧R G v y
 |[],[],i,xs,cs,h,_,_,_=>by
  simp only[vrow,Option.some.injEq]at h
  subst h
  exact⟨cs,rfl,rfl,fun _ _=>rfl,by simp⟩
 |(k,x)::parts,(k',v)::vps,i,xs,cs,h,hl,hp,hle=>by
  simp only[vrow]at h
  split at h
  ·rename_i hc
   obtain⟨hk,hlx,ho⟩:=hc
   cases hr:vrow sz (i+1) parts with
   |none=>simp[hr]at h
   |some ys=>
    simp only[hr,Option.map_some,Option.some.injEq]at h
    subst h
    obtain⟨e,hv⟩:=hp 0 _ _ rfl rfl
    simp only at e hv
    subst e
    subst hk
    obtain⟨hvs,_,hvr⟩:=cells_spec hv ho
    have hmul:(k+1) * sz≤(k+(parts.length+1)) * sz:=Nat.mul_le_mul_right _ (by omega)
    have hmul2:(k+1) * sz=k * sz+sz:=Nat.succ_mul k sz
    simp only[List.length_cons]at hle
    have hfit:k * sz+v.cells.toList.length≤cs.size:=by simp;omega
    have hstep:=foldl_splice v.cells.toList (k * sz) cs 0 (by simpa using hfit)
    simp only[Nat.add_zero]at hstep
    have hlen1:(splice cs.toList (k * sz) v.cells.toList).length=cs.size:=by
     rw[splice_length _ _ _ (by simpa using hfit)];simp
    obtain⟨vs,hf,hs,hlow,hall⟩:=run_fillRow parts vps (k+1) ys (splice cs.toList (k * sz) v.cells.toList).toArray hr (by simpa using hl)
     (fun i p q hpi hqi=>hp (i+1) p q (by simpa using hpi) (by simpa using hqi))
     (by rw[List.size_toArray,hlen1,show k+1+parts.length=k+(parts.length+1) by omega];exact hle)
    refine⟨vs,?_,by rw[hs,List.size_toArray,hlen1],fun q hq=>?_,fun j m z y hz hy=>?_⟩
    ·simp only[Instr.fill]
     rw[if_neg (by simp at hfit ⊢;omega),← hf,← Array.foldl_toList,Array.toList_zipIdx,← hstep,Array.toArray_toList]
    ·rw[hlow q (by omega),List.getElem?_toArray,splice_get _ _ _ _ (by simpa using hfit),if_neg (by omega)]
     simp
    ·cases j with
     |zero=>
      simp only[List.getElem?_cons_zero,Option.some.injEq]at hz
      subst hz
      have hm:m<x.cells.length:=(List.getElem?_eq_some_iff.1 hy).1
      rw[Nat.add_zero,hlow _ (by omega),List.getElem?_toArray,splice_get _ _ _ _ (by simpa using hfit),if_pos (by simp;omega)]
      have hmv:m<v.cells.size:=by omega
      refine⟨v.cells[m],by simp[hmv],hvr m _ y (Array.getElem?_eq_getElem hmv) hy⟩
     |succ j=>
      obtain⟨u,hu,hru⟩:=hall j m z y (by simpa using hz) hy
      exact⟨u,by rw[← hu];congr 3;omega,hru⟩
  ·cases h
theorem run_buildSlice {T e:TypeId}{len:Nat}{parts:List (Nat×VV)}{vps:Array (Nat×Value)}{xs:List (List VV)}(hS:Sim w0 G w s)
  (hk:(qi P T).k=.slice e) (hz:(qi P e).zok=true) (hlen:parts.length=len) (hbig:len * (qi P e).sz≤16777216)
  (hl:vps.size=parts.length) (hp:∀(i:Nat) (p:Nat×VV) (q:Nat×Value),parts[i]?=some p→vps[i]?=some q→p.1=q.1∧R G q.2 p.2)
  (h:vrow (qi P e).sz 0 parts=some xs) :
  ∃v w' G',(Instr.buildSlice T len vps).run P w=.ok v w'∧G.le G'∧Sim w0 G' w' s∧R G' v (.lst xs (ownLit len)):=by
 obtain⟨dT,iT,hdT,hiT,hkT,_⟩:=qi_spec (P:=P) T (.inr (.inl (by rw[hk];simp)))
 have hdT':dT=.slice e:=by
  rw[hk]at hkT
  cases dT<;>simp[qkOf]at hkT
  rw[hkT]
 subst hdT'
 obtain⟨z,i,d,hi,hd,hke,hs,hzz,hpos,hzs,hag,hrl⟩:=RLs.zero (P:=P) (G:=G) hz
 obtain⟨hxl,hx2,hx3,_⟩:=vrow_spec parts 0 xs h
 by_cases h00:len=0
 ·subst h00
  have hp0:parts=[]:=List.eq_nil_of_length_eq_zero hlen
  subst hp0
  have hv0:vps=#[]:=by simpa using hl
  subst hv0
  have hx0:xs=[]:=by simpa [vrow]using h.symm
  subst hx0
  refine⟨.slice (some ⟨w.heap.size,0,none⟩) 0 0,_,G,?_,Gh.le.refl G,hS.alloc (.cells #[] e),.emp _ _ _ (.inl rfl)⟩
  unfold Instr.buildSlice
  simp[run_underlying hdT,run_sizeOf hi,Instr.fill,newRow]
  rw[show (Array.range 0:Array Nat)=#[] from Array.eq_empty_of_size_eq_zero (by simp),Array.map_empty]
 have h0:0<len:=by omega
 have hown:ownLit len=.full:=by cases len with|zero=>omega|succ n=>rfl
 rw[hown]
 have hzne:len * i.size≠0:=by
  have:=Nat.mul_pos h0 hpos
  omega
 obtain⟨vs,hf,hvs,_,hall⟩:=run_fillRow (G:=G) parts vps.toList 0 xs ((Array.range (len * i.size)).map fun q=>z.cells[q % z.cells.size]!) h
  (by simpa using hl) (fun i p q hpi hqi=>hp i p q hpi (by simpa using hqi)) (by simp[hlen,hs])
 obtain⟨hS',hG'⟩:=hS.alloc_know e vs
 refine⟨.slice (some ⟨w.heap.size,0,none⟩) len len,_,_,?_,hG',hS',?_⟩
 ·unfold Instr.buildSlice
  simp only[Sem.run_bind,run_underlying hdT,Result.andThen_ok,run_sizeOf hi,Sem.run_ite]
  rw[if_neg (by rw[hs]at hbig;omega)]
  simp only[hzne,if_false,Sem.run_bind,zeroValue,typeInfo,run_program,hi,Result.andThen_ok,hzz,Sem.run_pure]
  rw[hs]at hf
  rw[hf]
  simp only[newRow,Sem.run_bind,run_newObj,Result.andThen_ok,Sem.run_pure]
  rfl
 ·have hvsz:vs.size=len * i.size:=by rw[hvs];simp
  refine .lst w.heap.size 0 len len (qi P e).sz xs .full (fun a b=>(vs[a * (qi P e).sz+b]?).getD default) (by omega) (Nat.le_refl _) hx2 hx3 (fun a b ha hb=>?_) (fun a b x y hxa hyb=>?_) (.inr (.inl ⟨rfl,rfl,by omega⟩))
  ·rw[Gh.know_K,Nat.zero_add]
   have:a * (qi P e).sz+b<vs.size:=by
    rw[hvsz,← hs]
    have:=Nat.mul_le_mul_right (qi P e).sz (show a+1≤len by omega)
    rw[Nat.succ_mul]at this
    omega
   simp[this]
  ·obtain⟨v,hv,hr⟩:=hall a b x y hxa hyb
   rw[Nat.zero_add]at hv
   simp only[hv,Option.getD_some]
   exact hr.mono hG'
end
end Go.Proofs.YtgdbgfjhenobdaaGreatDoor
