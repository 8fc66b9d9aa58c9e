/- Values without addresses, what is known of memory, and mutable memory as a map: the relation between these and the model's worlds. Conditions: none. -/
import Derived.Tactics
import Derived.Test.YtbfgdblebepgcaaDoorProg
import Derived.Lib.LaidTab
import Derived.Lib.ItoaNum
import Derived.Below
import Derived.OwnWalk
import Derived.Laws.AppendOwn
import Derived.Laws.Rows
set_option linter.unusedSimpArgs false
set_option linter.unusedVariables false
namespace Go.Proofs.YtbfgdblebepgcaaDoor
open Go.RowKit

inductive Own where
  | no
  | full
  | at_ (b : Nat)

inductive VV where
  | int (k : IntKind) (n : Int)
  | bool (b : Bool)
  | str (s : List UInt8)
  | lst (xs : List (List VV)) (o : Own)
  | eptr (cs : List VV)
  | ptr (b off : Nat)
  | fn (f : FuncId) (caps : List VV)
  | mp (b : Nat)
  | iface (t : TypeId) (x : VV)
  | agg (cs : List VV)
  | tup (xs : List VV)
  | raw (v : Value)

instance : Inhabited VV := ⟨.bool false⟩

namespace VV
def one : VV → Bool
  | .agg _ => false
  | .tup _ => false
  | .raw v => v.oneCell'
  | _ => true
def cells : VV → List VV
  | .agg cs => cs
  | x => [x]
end VV

structure Gh where
  K : Nat → Nat → Option Value
  cap : Nat → Option (Nat × Nat)

structure Gh.le (G G' : Gh) : Prop where
  K : ∀ b i v, G.K b i = some v → G'.K b i = some v
  cap : ∀ b c, G.cap b = some c → G'.cap b = some c

theorem Gh.le.refl (G : Gh) : G.le G := ⟨fun _ _ _ h => h, fun _ _ h => h⟩
theorem Gh.le.trans {A B C : Gh} (h : A.le B) (k : B.le C) : A.le C :=
  ⟨fun b i v e => k.K b i v (h.K b i v e), fun b c e => k.cap b c (h.cap b c e)⟩

inductive R (G : Gh) : Value → VV → Prop
  | int (k : IntKind) (n : Int) : R G (.int k n) (.int k n)
  | bool (b : Bool) : R G (.bool b) (.bool b)
  | str (a : Array UInt8) : R G (.string ⟨a⟩) (.str a.toList)
  | raw (v : Value) : R G v (.raw v)
  | emp (a : Option Addr) (cap : Nat) (o : Own) (ho : o = .no ∨ (o = .full ∧ a = none ∧ cap = 0)) : R G (.slice a 0 cap) (.lst [] o)
  | lst (b off len cap sz : Nat) (xs : List (List VV)) (o : Own) (f : Nat → Nat → Value) (hl : xs.length = len) (hc : len ≤ cap)
      (hz : ∀ x, x ∈ xs → x.length = sz) (h1 : ∀ x, x ∈ xs → ∀ y, y ∈ x → y.one = true)
      (hK : ∀ i j, i < len → j < sz → G.K b (off + (i * sz + j)) = some (f i j))
      (hR : ∀ (i j : Nat) (x : List VV) (y : VV), xs[i]? = some x → x[j]? = some y → R G (f i j) y)
      (ho : o = .no ∨ (o = .full ∧ cap = len ∧ 0 < len) ∨ (o = .at_ b ∧ off = 0 ∧ G.cap b = some (cap, sz))) :
      R G (.slice (some ⟨b, off, none⟩) len cap) (.lst xs o)
  | eptr (b off : Nat) (cs : List VV) (f : Nat → Value) (h1 : ∀ y, y ∈ cs → y.one = true)
      (hK : ∀ j, j < cs.length → G.K b (off + j) = some (f j))
      (hR : ∀ (j : Nat) (y : VV), cs[j]? = some y → R G (f j) y) : R G (.pointer (some ⟨b, off, none⟩)) (.eptr cs)
  | ptr (b off : Nat) : R G (.pointer (some ⟨b, off, none⟩)) (.ptr b off)
  | fn (f : FuncId) (vs : Array Value) (xs : List VV) (hs : vs.size = xs.length) (hR : ∀ (j : Nat) (v : Value) (y : VV), vs[j]? = some v → xs[j]? = some y → R G v y) :
      R G (.func (.func f) #[] vs) (.fn f xs)
  | mp (b : Nat) : R G (.map (some b)) (.mp b)
  | iface (t : TypeId) (v : Value) (x : VV) (h : R G v x) : R G (.iface t v) (.iface t x)
  | agg (vs : Array Value) (xs : List VV) (hs : vs.size = xs.length) (h1 : ∀ y, y ∈ xs → y.one = true)
      (hR : ∀ (j : Nat) (v : Value) (y : VV), vs[j]? = some v → xs[j]? = some y → R G v y) : R G (.agg vs) (.agg xs)
  | tup (vs : Array Value) (xs : List VV) (hs : vs.size = xs.length) (hR : ∀ (j : Nat) (v : Value) (y : VV), vs[j]? = some v → xs[j]? = some y → R G v y) :
      R G (.tuple vs) (.tup xs)

theorem R.mono {G G' : Gh} (h : G.le G') : ∀ {v : Value} {x : VV}, R G v x → R G' v x := by
  intro v x r
  induction r with
  | int k n => exact .int k n
  | bool b => exact .bool b
  | str a => exact .str a
  | raw v => exact .raw v
  | emp a cap o ho => exact .emp a cap o ho
  | lst b off len cap sz xs o f hl hc hz h1 hK hR ho ih =>
    refine .lst b off len cap sz xs o f hl hc hz h1 (fun i j hi hj => h.K _ _ _ (hK i j hi hj)) ih ?_
    rcases ho with ho | ho | ⟨h1, h2, h3⟩
    · exact .inl ho
    · exact .inr (.inl ho)
    · exact .inr (.inr ⟨h1, h2, h.cap _ _ h3⟩)
  | eptr b off cs f h1 hK hR ih => exact .eptr b off cs f h1 (fun j hj => h.K _ _ _ (hK j hj)) ih
  | ptr b off => exact .ptr b off
  | fn f vs xs hs hR ih => exact .fn f vs xs hs ih
  | mp b => exact .mp b
  | iface t v x hx ih => exact .iface t v x ih
  | agg vs xs hs h1 hR ih => exact .agg vs xs hs h1 ih
  | tup vs xs hs hR ih => exact .tup vs xs hs ih

theorem R.one {G : Gh} {v : Value} {x : VV} (h : R G v x) : v.oneCell' = x.one := by
  cases h <;> rfl

/-- What is owned may be taken for what is not. -/
theorem R.unown {G : Gh} {v : Value} {xs : List (List VV)} {o : Own} (h : R G v (.lst xs o)) : R G v (.lst xs .no) := by
  cases h with
  | emp a cap o ho => exact .emp a cap .no (.inl rfl)
  | lst b off len cap sz xs o f hl hc hz h1 hK hR ho => exact .lst b off len cap sz xs .no f hl hc hz h1 hK hR (.inl rfl)

/-- A constant of the program. -/
def cv : Value → VV
  | .int k n => .int k n
  | .bool b => .bool b
  | .string ⟨a⟩ => .str a.toList
  | .slice none 0 0 => .lst [] .full
  | v => .raw v

theorem R.cv (G : Gh) (v : Value) : R G v (cv v) := by
  unfold Go.Proofs.YtbfgdblebepgcaaDoor.cv
  split
  · exact .int _ _
  · exact .bool _
  · exact .str _
  · exact .emp _ _ _ (.inr ⟨rfl, rfl, rfl⟩)
  · exact .raw _

/-- Mutable memory. -/
inductive Cell where
  | free
  | obj (T : TypeId) (xs : List VV)
  | vec (T : TypeId) (sz n : Nat)
  | map (es : List (VV × VV))
  | pk (T : TypeId) (xs : List VV) (rs : List (Nat × TypeId × Nat))

abbrev St := Nat → Cell
def St.set (s : St) (b : Nat) (c : Cell) : St := fun x => if x = b then c else s x
theorem St.set_same (s : St) (b : Nat) (c : Cell) : s.set b c b = c := by simp [St.set]
theorem St.set_other (s : St) {b x : Nat} (c : Cell) (h : x ≠ b) : s.set b c x = s x := by simp [St.set, h]
theorem St.set_set (s : St) (b : Nat) (c d : Cell) : (s.set b c).set b d = s.set b d := by
  funext x; by_cases h : x = b <;> simp [St.set, h]
theorem St.set_self (s : St) (b : Nat) (c : Cell) (h : s b = c) : s.set b c = s := by
  funext x; by_cases hx : x = b <;> simp [St.set, hx, h]

def CellOk (B : Nat) (G : Gh) (w : World) (b : Nat) : Cell → Prop
  | .free => True
  | .obj T xs => B ≤ b ∧ (∀ i, G.K b i = none) ∧ ∃ c : Array Value, w.heap[b]? = some (.cells c T (0, 0)) ∧ c.size = xs.length ∧
      ∀ (i : Nat) (x : VV), xs[i]? = some x → x.one = true ∧ ∃ v, c[i]? = some v ∧ R G v x
  | .vec T sz n => B ≤ b ∧ ∃ (c : Array Value) (cap : Nat) (fz : Nat × Nat), G.cap b = some (cap, sz) ∧ w.heap[b]? = some (.cells c T fz) ∧ fz.2 ≤ n * sz ∧ c.size = cap * sz ∧ n ≤ cap ∧ cap ≤ maxLen ∧
      ∀ i, n * sz ≤ i → G.K b i = none
  | .map es => B ≤ b ∧ ∃ (c : Array MapEntry) (clock : Nat), w.heap[b]? = some (.map c clock) ∧ c.size = es.length ∧
      ∀ (i : Nat) (k x : VV), es[i]? = some (k, x) → ∃ e, c[i]? = some e ∧ R G e.key k ∧ R G e.val x
  | .pk T xs _ => B ≤ b ∧ (∀ i, G.K b i = none) ∧ ∃ c : Array Value, w.heap[b]? = some (.cells c T (0, 0)) ∧ c.size = xs.length ∧
      ∀ (i : Nat) (x : VV), xs[i]? = some x → x.one = true ∧ ∃ v, c[i]? = some v ∧ R G v x

/-- What is known of package-level variables. -/
def GLB (w : World) : Prop := Go.Lib.TabIs Tryd.prog w "internal/strconv.uint64pow10" .u64 Go.Lib.pow10Tab
/-- A list that a packed object holds together with its own row, which nobody else sees. -/
def RowAt (B : Nat) (G : Gh) (w : World) (m : Nat → Nat → Option Nat) (b : Nat) (T : TypeId) (xs : List VV) (i : Nat) (T' : TypeId) (sz : Nat) : Prop :=
  ∃ (c : Array Value) (l : List (List VV)), w.heap[b]? = some (.cells c T (0, 0)) ∧ xs[i]? = some (.lst l .no) ∧
    ((l = [] ∧ c[i]? = some (.slice none 0 0)) ∨
     ∃ g cap, m b i = some g ∧ c[i]? = some (.slice (some ⟨g, 0, none⟩) l.length cap) ∧ R G (.slice (some ⟨g, 0, none⟩) l.length cap) (.lst l (.at_ g)) ∧ CellOk B G w g (.vec T' sz l.length))
def Rows (B : Nat) (G : Gh) (w : World) (s : St) : Prop := ∃ m : Nat → Nat → Option Nat,
  (∀ b i b' i' g, m b i = some g → m b' i' = some g → b = b' ∧ i = i') ∧ (∀ b i g, m b i = some g → s g = .free ∧ g < w.heap.size) ∧
  ∀ b T xs rs i T' sz, s b = .pk T xs rs → (i, T', sz) ∈ rs → RowAt B G w m b T xs i T' sz

structure Sim (w0 : World) (G : Gh) (w : World) (s : St) : Prop where
  below : Below w0.heap.size w0 w
  K : ∀ b i v, G.K b i = some v → w.cell? ⟨b, i, none⟩ = some v
  cap : ∀ b c, G.cap b = some c → b < w.heap.size
  ok : ∀ b, CellOk w0.heap.size G w b (s b)
  gl : GLB w0
  rows : Rows w0.heap.size G w s


/-- One block's words where its memory is as it was. -/
theorem CellOk.keep {B : Nat} {G G' : Gh} {w w' : World} {b : Nat} {c : Cell} (h : CellOk B G w b c) (hh : w'.heap[b]? = w.heap[b]?) (hG : G.le G')
    (hK : ∀ i, G'.K b i = G.K b i) : CellOk B G' w' b c := by
  cases c with
  | free => trivial
  | obj T xs =>
    obtain ⟨hB, hn, c, e, hs, hx⟩ := h
    exact ⟨hB, fun i => (hK i).trans (hn i), c, hh.trans e, hs, fun i x hi => let ⟨h1, v, hv, hr⟩ := hx i x hi; ⟨h1, v, hv, hr.mono hG⟩⟩
  | vec T sz n =>
    obtain ⟨hB, c, cap, fz, hc, e, hfz, hs, hn, hm, hk⟩ := h
    exact ⟨hB, c, cap, fz, hG.cap _ _ hc, hh.trans e, hfz, hs, hn, hm, fun i hi => (hK i).trans (hk i hi)⟩
  | map es =>
    obtain ⟨hB, c, cl, e, hs, hx⟩ := h
    exact ⟨hB, c, cl, hh.trans e, hs, fun i k x hi => let ⟨e, he, hr, hr'⟩ := hx i k x hi; ⟨e, he, hr.mono hG, hr'.mono hG⟩⟩
  | pk T xs rs =>
    obtain ⟨hB, hn, c, e, hs, hx⟩ := h
    exact ⟨hB, fun i => (hK i).trans (hn i), c, hh.trans e, hs, fun i x hi => let ⟨h1, v, hv, hr⟩ := hx i x hi; ⟨h1, v, hv, hr.mono hG⟩⟩
/-- Packed rows, where memory that nobody sees is as it was. -/
theorem Rows.keep {B : Nat} {G G' : Gh} {w w' : World} {s s' : St} (h : Rows B G w s) (hG : G.le G') (hsz : w.heap.size ≤ w'.heap.size)
    (hfr : ∀ g, g < w.heap.size → s g = .free → s' g = .free ∧ w'.heap[g]? = w.heap[g]? ∧ ∀ i, G'.K g i = G.K g i)
    (hpk : ∀ b T xs rs, s' b = .pk T xs rs → ∃ xs0 rs0, s b = .pk T xs0 rs0 ∧ ∀ r, r ∈ rs → r ∈ rs0 ∧ xs[r.1]? = xs0[r.1]? ∧
      ∀ c, w.heap[b]? = some (.cells c T (0, 0)) → ∃ c', w'.heap[b]? = some (.cells c' T (0, 0)) ∧ c'[r.1]? = c[r.1]?) : Rows B G' w' s' := by
  obtain ⟨m, h1, h2, h3⟩ := h
  refine ⟨m, h1, fun b i g hm => ?_, fun b T xs rs i T' sz hb hr => ?_⟩
  · obtain ⟨a1, a2⟩ := h2 b i g hm
    exact ⟨(hfr g a2 a1).1, Nat.lt_of_lt_of_le a2 hsz⟩
  · obtain ⟨xs0, rs0, hb0, hall⟩ := hpk b T xs rs hb
    obtain ⟨hr0, hx, hc⟩ := hall _ hr
    obtain ⟨c, l, e, hxl, hrow⟩ := h3 b T xs0 rs0 i T' sz hb0 hr0
    obtain ⟨c', e', hci⟩ := hc c e
    refine ⟨c', l, e', by rw [← hxl]; exact hx, ?_⟩
    rcases hrow with ⟨hl, hn⟩ | ⟨g, cap, hm, hs, hR, hv⟩
    · exact .inl ⟨hl, hci.trans hn⟩
    · obtain ⟨a1, a2⟩ := h2 b i g hm
      obtain ⟨_, a3, a4⟩ := hfr g a2 a1
      exact .inr ⟨g, cap, hm, hci.trans hs, hR.mono hG, hv.keep a3 hG a4⟩
/-- .. where no packed object is touched. -/
theorem Rows.keep' {B : Nat} {G G' : Gh} {w w' : World} {s s' : St} (h : Rows B G w s) (hG : G.le G') (hsz : w.heap.size ≤ w'.heap.size)
    (hfr : ∀ g, g < w.heap.size → s g = .free → s' g = .free ∧ w'.heap[g]? = w.heap[g]? ∧ ∀ i, G'.K g i = G.K g i)
    (hpk : ∀ b T xs rs, s' b = .pk T xs rs → s b = .pk T xs rs ∧ w'.heap[b]? = w.heap[b]?) : Rows B G' w' s' :=
  h.keep hG hsz hfr fun b T xs rs hb => let ⟨a1, a2⟩ := hpk b T xs rs hb; ⟨xs, rs, a1, fun r hr => ⟨hr, rfl, fun c hc => ⟨c, a2.trans hc, rfl⟩⟩⟩
/-- Memory may be forgotten. -/
def Fg (s s' : St) : Prop := ∀ b, s' b = .free ∨ s' b = s b
theorem Fg.refl (s : St) : Fg s s := fun _ => .inr rfl
theorem Fg.trans {a b c : St} (h : Fg a b) (k : Fg b c) : Fg a c := fun x => by
  rcases k x with e | e
  · exact .inl e
  · rw [e]; exact h x
theorem Fg.set_free (s : St) (b : Nat) : Fg s (s.set b .free) := fun x => by
  by_cases h : x = b
  · exact .inl (by simp [St.set, h])
  · exact .inr (by simp [St.set, h])
theorem Fg.of_set {s : St} {b : Nat} (c : Cell) (h : s b = .free) : Fg (s.set b c) s := fun x => by
  by_cases hx : x = b
  · subst hx; exact .inl h
  · exact .inr (by simp [St.set, hx])
theorem Fg.set {s s' : St} (h : Fg s s') (b : Nat) (c : Cell) : Fg (s.set b c) (s'.set b c) := fun x => by
  by_cases hx : x = b
  · exact .inr (by simp [St.set, hx])
  · simpa [St.set, hx] using h x
theorem Sim.forget {w0 w : World} {G : Gh} {s s' : St} (h : Sim w0 G w s) (hf : Fg s s') : Sim w0 G w s' :=
  ⟨h.below, h.K, h.cap, fun b => by
    rcases hf b with e | e
    · rw [e]; trivial
    · rw [e]; exact h.ok b, h.gl, h.rows.keep' (Gh.le.refl G) (Nat.le_refl _) (fun g _ hg => ⟨by rcases hf g with e | e; exact e; rw [e]; exact hg, rfl, fun _ => rfl⟩) (fun b T xs rs hb => by
      rcases hf b with e | e
      · rw [e] at hb; cases hb
      · exact ⟨by rw [← e]; exact hb, rfl⟩)⟩

section
variable {w0 w : World} {G : Gh} {s : St}
theorem Sim.lt (h : Sim w0 G w s) {b : Nat} (hb : s b ≠ .free) : b < w.heap.size := by
  have ho := h.ok b
  have key : ∀ o, w.heap[b]? = some o → b < w.heap.size := fun o e => (Array.getElem?_eq_some_iff.1 e).1
  cases hc : s b with
  | free => exact absurd hc hb
  | obj T xs => rw [hc] at ho; obtain ⟨_, _, c, e, _⟩ := ho; exact key _ e
  | vec T sz n => rw [hc] at ho; obtain ⟨_, c, cap, fz, _, e, _⟩ := ho; exact key _ e
  | map es => rw [hc] at ho; obtain ⟨_, c, cl, e, _⟩ := ho; exact key _ e
  | pk T xs rs => rw [hc] at ho; obtain ⟨_, _, c, e, _⟩ := ho; exact key _ e
theorem Sim.fresh (h : Sim w0 G w s) : s w.heap.size = .free := by
  cases hc : s w.heap.size with
  | free => rfl
  | _ => exact absurd (h.lt (b := w.heap.size) (by rw [hc]; simp)) (Nat.lt_irrefl _)
theorem Sim.K_lt (h : Sim w0 G w s) {b i : Nat} {v : Value} (hk : G.K b i = some v) : b < w.heap.size := by
  have := World.block_lt_of_cell? w _ (h.K b i v hk)
  exact this
theorem Sim.K_fresh (h : Sim w0 G w s) (i : Nat) : G.K w.heap.size i = none := by
  cases hk : G.K w.heap.size i with
  | none => rfl
  | some v => exact absurd (h.K_lt hk) (Nat.lt_irrefl _)
theorem Sim.cap_fresh (h : Sim w0 G w s) : G.cap w.heap.size = none := by
  cases hk : G.cap w.heap.size with
  | none => rfl
  | some v => exact absurd (h.cap _ _ hk) (Nat.lt_irrefl _)
theorem Sim.size_le (h : Sim w0 G w s) : w0.heap.size ≤ w.heap.size := h.below.size

theorem Sim.drew (h : Sim w0 G w s) : Sim w0 G w.drew s :=
  ⟨h.below.drew, h.K, h.cap, fun b => (h.ok b).keep rfl (Gh.le.refl G) (fun _ => rfl), h.gl, h.rows.keep' (Gh.le.refl G) (Nat.le_refl _) (fun g _ hg => ⟨hg, rfl, fun _ => rfl⟩) (fun b T xs rs hb => ⟨hb, rfl⟩)⟩

theorem cell?_alloc {w : World} {o : Obj} {a : Addr} {v : Value} (h : w.cell? a = some v) : (w.alloc o).cell? a = some v :=
  (World.cell?_alloc_lt w o a (World.block_lt_of_cell? w a h)).trans h

/-- A new block that is not looked at. -/
theorem Sim.alloc (h : Sim w0 G w s) (o : Obj) : Sim w0 G (w.alloc o) s :=
  ⟨h.below.alloc h.size_le o, fun b i v hk => cell?_alloc (h.K b i v hk), fun b c hc => by have := h.cap b c hc; simp; omega, fun b => by
    by_cases hb : b < w.heap.size
    · exact (h.ok b).keep (heap_alloc_old w o b hb) (Gh.le.refl G) (fun _ => rfl)
    · have : s b = .free := by
        cases hc : s b with
        | free => rfl
        | _ => exact absurd (h.lt (b := b) (by rw [hc]; simp)) hb
      rw [this]; trivial, h.gl, h.rows.keep' (Gh.le.refl G) (by simp) (fun g hl hg => ⟨hg, heap_alloc_old w o g hl, fun _ => rfl⟩) (fun b T xs rs hb => ⟨hb, heap_alloc_old w o b (h.lt (by rw [hb]; simp))⟩)⟩

theorem Sim.rows_new (h : Sim w0 G w s) (o : Obj) (c : Cell) (hc : ∀ T xs rs, c ≠ .pk T xs rs) : Rows w0.heap.size G (w.alloc o) (s.set w.heap.size c) :=
  h.rows.keep' (Gh.le.refl G) (by simp) (fun g hl hg => ⟨by rw [St.set_other _ _ (by omega)]; exact hg, heap_alloc_old w o g hl, fun _ => rfl⟩) (fun b T xs rs hb => by
    by_cases e : b = w.heap.size
    · subst e; rw [St.set_same] at hb; exact absurd hb (hc T xs rs)
    · rw [St.set_other _ _ e] at hb
      exact ⟨hb, heap_alloc_old w o b (h.lt (by rw [hb]; simp))⟩)
/-- A new object. -/
theorem Sim.alloc_obj (h : Sim w0 G w s) (T : TypeId) (c : Array Value) (xs : List VV) (hs : c.size = xs.length)
    (hx : ∀ (i : Nat) (x : VV), xs[i]? = some x → x.one = true ∧ ∃ v, c[i]? = some v ∧ R G v x) :
    Sim w0 G (w.alloc (.cells c T)) (s.set w.heap.size (.obj T xs)) := by
  have h' := h.alloc (.cells c T)
  refine ⟨h'.below, h'.K, h'.cap, fun b => ?_, h.gl, h.rows_new _ _ (fun _ _ _ e => by cases e)⟩
  by_cases hb : b = w.heap.size
  · subst hb
    rw [St.set_same]
    exact ⟨h.size_le, h.K_fresh, c, heap_alloc_new w _, hs, hx⟩
  · rw [St.set_other s _ hb]; exact h'.ok b

theorem Sim.alloc_map (h : Sim w0 G w s) : Sim w0 G (w.alloc (.map #[] 0)) (s.set w.heap.size (.map [])) := by
  have h' := h.alloc (.map #[] 0)
  refine ⟨h'.below, h'.K, h'.cap, fun b => ?_, h.gl, h.rows_new _ _ (fun _ _ _ e => by cases e)⟩
  by_cases hb : b = w.heap.size
  · subst hb
    rw [St.set_same]
    exact ⟨h.size_le, #[], 0, heap_alloc_new w _, rfl, fun i k x hi => by simp at hi⟩
  · rw [St.set_other s _ hb]; exact h'.ok b

/-- More is known of a block that is in nobody's hands: its cells are known for ever. -/
def Gh.know (G : Gh) (b : Nat) (c : Nat → Option Value) : Gh := ⟨fun x i => if x = b then c i else G.K x i, G.cap⟩
theorem Gh.le_know (G : Gh) (b : Nat) (c : Nat → Option Value) (h : ∀ i v, G.K b i = some v → c i = some v) : G.le (G.know b c) :=
  ⟨fun x i v hv => by
    by_cases hx : x = b
    · subst hx; simp [Gh.know, h i v hv]
    · simp [Gh.know, hx, hv], fun _ _ h => h⟩
theorem Gh.know_K (G : Gh) (b : Nat) (c : Nat → Option Value) (i : Nat) : (G.know b c).K b i = c i := by simp [Gh.know]
theorem Gh.know_other (G : Gh) {b x : Nat} (c : Nat → Option Value) (h : x ≠ b) (i : Nat) : (G.know b c).K x i = G.K x i := by simp [Gh.know, h]

/-- More may be known of blocks that are seen. -/
theorem Rows.grow {B : Nat} {G G' : Gh} {w : World} {s : St} {b : Nat} {c : Cell} (h : Rows B G w s) (hG : G.le G') (hK : ∀ g i, g ≠ b → G'.K g i = G.K g i) (hb : s b = c) (hc : c ≠ .free := by simp) : Rows B G' w s :=
  h.keep' hG (Nat.le_refl _) (fun g _ hg => ⟨hg, rfl, fun i => hK g i (by rintro rfl; rw [hb] at hg; exact hc hg)⟩) (fun _ _ _ _ hb => ⟨hb, rfl⟩)
/-- A store into a packed object. -/
theorem Sim.set_pk (h : Sim w0 G w s) {b : Nat} {T : TypeId} {xs ys : List VV} {rs rs' : List (Nat × TypeId × Nat)} (hb : s b = .pk T xs rs) (w' : World) (c c' : Array Value) (hc : w.heap[b]? = some (.cells c T (0, 0)))
    (hbe : Below w0.heap.size w w') (hsz : w'.heap.size = w.heap.size) (hh : w'.heap[b]? = some (.cells c' T (0, 0))) (ho : ∀ k, k ≠ b → w'.heap[k]? = w.heap[k]?)
    (hs : c'.size = ys.length) (hx : ∀ (i : Nat) (x : VV), ys[i]? = some x → x.one = true ∧ ∃ v, c'[i]? = some v ∧ R G v x)
    (hrs : ∀ r, r ∈ rs' → r ∈ rs ∧ ys[r.1]? = xs[r.1]? ∧ c'[r.1]? = c[r.1]?) :
    Sim w0 G w' (s.set b (.pk T ys rs')) := by
  have hob := h.ok b
  rw [hb] at hob
  obtain ⟨hB, hn, _⟩ := hob
  refine ⟨h.below.trans hbe, fun b' i v hk => ?_, fun b' c hc => by rw [hsz]; exact h.cap b' c hc, fun b' => ?_, h.gl, h.rows.keep (Gh.le.refl G) (by rw [hsz]; exact Nat.le_refl _) (fun g _ hg => ⟨?_, ho g ?_, fun _ => rfl⟩) (fun b' T' xs' rs' hb' => ?_)⟩
  · have hne : b' ≠ b := by rintro rfl; rw [hn] at hk; cases hk
    exact (World.cell?_of_block (w := w) (ho b' hne)).trans (h.K b' i v hk)
  · by_cases hb' : b' = b
    · subst hb'
      rw [St.set_same]
      exact ⟨hB, hn, c', hh, hs, hx⟩
    · rw [St.set_other s _ hb']
      exact (h.ok b').keep (ho b' hb') (Gh.le.refl G) (fun _ => rfl)
  · rw [St.set_other _ _ (by rintro rfl; rw [hb] at hg; cases hg)]; exact hg
  · rintro rfl; rw [hb] at hg; cases hg
  · by_cases hne : b' = b
    · subst hne
      rw [St.set_same] at hb'
      injection hb' with e1 e2 e3
      subst e1; subst e2; subst e3
      refine ⟨xs, rs, hb, fun r hr => ⟨(hrs r hr).1, (hrs r hr).2.1, fun c0 hc0 => ?_⟩⟩
      rw [hc] at hc0
      injection hc0 with hc0
      injection hc0 with hc0
      subst hc0
      exact ⟨c', hh, (hrs r hr).2.2⟩
    · rw [St.set_other _ _ hne] at hb'
      exact ⟨xs', rs', hb', fun r hr => ⟨hr, rfl, fun c0 hc0 => ⟨c0, (ho b' hne).trans hc0, rfl⟩⟩⟩

theorem Sim.alloc_know (h : Sim w0 G w s) (T : TypeId) (c : Array Value) :
    Sim w0 (G.know w.heap.size (fun i => c[i]?)) (w.alloc (.cells c T)) s ∧ G.le (G.know w.heap.size (fun i => c[i]?)) := by
  have hle : G.le (G.know w.heap.size (fun i => c[i]?)) := G.le_know _ _ fun i v hv => by rw [h.K_fresh] at hv; cases hv
  refine ⟨⟨h.below.alloc h.size_le _, fun b i v hk => ?_, fun b c' hc => by have := h.cap b c' hc; simp; omega, fun b => ?_, h.gl, h.rows.keep' hle (by simp) (fun g hl hg => ⟨hg, heap_alloc_old w _ g hl, fun i => Gh.know_other _ _ (by omega) i⟩) (fun b T xs rs hb => ⟨hb, heap_alloc_old w _ b (h.lt (by rw [hb]; simp))⟩)⟩, hle⟩
  · by_cases hb : b = w.heap.size
    · subst hb
      rw [Gh.know_K] at hk
      rw [World.cell?_alloc_new]; exact hk
    · rw [Gh.know_other _ _ hb] at hk
      exact cell?_alloc (h.K b i v hk)
  · by_cases hb : b < w.heap.size
    · exact (h.ok b).keep (heap_alloc_old w _ b hb) hle (fun i => Gh.know_other _ _ (by omega) i)
    · have : s b = .free := by
        cases hc : s b with
        | free => rfl
        | _ => exact absurd (h.lt (b := b) (by rw [hc]; simp)) hb
      rw [this]; trivial

/-- A store into an object. -/
theorem Sim.set_obj (h : Sim w0 G w s) {b : Nat} {T : TypeId} {xs ys : List VV} (hb : s b = .obj T xs) (w' : World) (c' : Array Value)
    (hbe : Below w0.heap.size w w') (hsz : w'.heap.size = w.heap.size) (hh : w'.heap[b]? = some (.cells c' T (0, 0))) (ho : ∀ k, k ≠ b → w'.heap[k]? = w.heap[k]?)
    (hs : c'.size = ys.length) (hx : ∀ (i : Nat) (x : VV), ys[i]? = some x → x.one = true ∧ ∃ v, c'[i]? = some v ∧ R G v x) :
    Sim w0 G w' (s.set b (.obj T ys)) := by
  have hob := h.ok b
  rw [hb] at hob
  obtain ⟨hB, hn, _⟩ := hob
  refine ⟨h.below.trans hbe, fun b' i v hk => ?_, fun b' c hc => by rw [hsz]; exact h.cap b' c hc, fun b' => ?_, h.gl, h.rows.keep' (Gh.le.refl G) (by rw [hsz]; exact Nat.le_refl _) (fun g _ hg => ⟨?_, ho g ?_, fun _ => rfl⟩) (fun b' T' xs' rs' hb' => ?_)⟩
  rotate_left 2
  · rw [St.set_other _ _ (by rintro rfl; rw [hb] at hg; cases hg)]; exact hg
  · rintro rfl; rw [hb] at hg; cases hg
  · have hne : b' ≠ b := by rintro rfl; rw [St.set_same] at hb'; cases hb'
    rw [St.set_other _ _ hne] at hb'
    exact ⟨hb', ho b' hne⟩
  · have hne : b' ≠ b := by rintro rfl; rw [hn] at hk; cases hk
    exact (World.cell?_of_block (w := w) (ho b' hne)).trans (h.K b' i v hk)
  · by_cases hb' : b' = b
    · subst hb'
      rw [St.set_same]
      exact ⟨hB, hn, c', hh, hs, hx⟩
    · rw [St.set_other s _ hb']
      exact (h.ok b').keep (ho b' hb') (Gh.le.refl G) (fun _ => rfl)
end
end Go.Proofs.YtbfgdblebepgcaaDoor
