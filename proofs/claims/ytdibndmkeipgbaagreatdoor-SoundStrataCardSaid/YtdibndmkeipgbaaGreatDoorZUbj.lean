/- What is proved: Numbers as texts, and texts as numbers; terms; Lists of something, in brackets; atoms. Conditions: those that stand in the statements. -/
import Derived.Test.YtdibndmkeipgbaaGreatDoorZUa
import Derived.Test.YtdibndmkeipgbaaGreatDoorZJoin
import Derived.Lib.SmallJoins
import Derived.Lib.Hide
set_option linter.unusedSimpArgs false
set_option linter.unusedVariables false
set_option maxRecDepth 100000
namespace Go.Proofs.YtdibndmkeipgbaaGreatDoor
open Go.RowKit
theorem RL_one' {G : Gh} {vs : Array Value} {x : VV} (h : RL G vs [x]) : ∃ a, vs = #[a] ∧ R G a x := by
  obtain ⟨hs, hr⟩ := h
  obtain ⟨l⟩ := vs
  match l, hs, hr with
  | [a], _, hr => exact ⟨a, rfl, hr 0 a x rfl rfl⟩
theorem below_growN (w : World) (k : Nat) (os : Array Obj) : Below w.heap.size w (Sort.grow (w.drewN k) os) :=
  ⟨rfl, rfl, rfl, by simp [Sort.grow, World.drewN], fun j hj => by
    show (w.heap ++ os)[j]? = w.heap[j]?
    rw [Array.getElem?_append_left hj]⟩
theorem Itoa_S (n : Int) (h0 : -9223372036854775808 ≤ n) (h1 : n ≤ 9223372036854775807) (s : St) : SRet Tryz.prog 69 [.int .i64 n] s (.str (Lib.itoa n)) s := by
  intro w0 G w vs hS hA
  obtain ⟨a, rfl, ha⟩ := RL_one' hA
  cases ha
  have htab : Lib.TabIs Tryz.prog w "internal/strconv.uint64pow10" .u64 Lib.pow10Tab := by
    have hg : Lib.TabIs Tryz.prog w0 "internal/strconv.uint64pow10" .u64 Lib.pow10Tab := hS.gl
    unfold Lib.TabIs World.var? at hg ⊢
    cases hn : Tryz.prog.globalNamed "internal/strconv.uint64pow10" with
    | none => rw [hn] at hg; cases hg
    | some g =>
      rw [hn] at hg
      simp only [Option.bind_some] at hg ⊢
      have hlt : g < w0.heap.size := by
        cases hc : w0.heap[g]? with
        | none => rw [hc] at hg; cases hg
        | some o => exact (Array.getElem?_eq_some_iff.1 hc).1
      rw [hS.below.block g hlt]
      exact hg
  refine Calls.mono (Tryz.strconv_Itoa n h0 h1 w htab) fun e w' h => ?_
  obtain ⟨rfl, k, os, rfl⟩ := h
  exact ⟨G, s, .ret (.str (Lib.itoa n)), Gh.le.refl G, hS.world (below_growN w k os), by
    have := R.str (G := G) (Lib.itoa n).toArray
    simpa [RE] using this, rfl, rfl⟩
theorem Atoi_S (t : List UInt8) (n : Int) (hl : t.length ≤ 18) (h : Lib.atoi t = some n) (s : St) : SRet Tryz.prog 37 [.str t] s (.tup [.int .i64 n, .raw .nilIface]) s := by
  intro w0 G w vs hS hA
  obtain ⟨a, rfl, ha⟩ := RL_one' hA
  cases ha with
  | str a =>
    refine Calls.mono (Tryz.strconv_Atoi ⟨a⟩ n (by simpa [ByteArray.size] using hl) h w) fun e w' h => ?_
    obtain ⟨rfl, t, rfl⟩ := h
    refine ⟨G, s, .ret (.tup [.int .i64 n, .raw .nilIface]), Gh.le.refl G, hS.world ⟨rfl, rfl, rfl, by rw [Lib.bytesWorld_size]; omega, fun j hj => Lib.bytesWorld_at_old _ _ _ j hj⟩, ?_, rfl, rfl⟩
    refine R.tup _ _ rfl fun j v y hv hy => ?_
    match j with
    | 0 => simp at hv hy; subst hv; subst hy; exact .int _ _
    | 1 => simp at hv hy; subst hv; subst hy; exact .raw _
    | j + 2 => simp at hy

def nextB (ks : List Int) : List Sgn → Bool
  | [] => false
  | x :: _ => ks.contains (x.kind : Int)
/-- What is asked of signs: that numbers can be read. -/
def GoodU (L : List Sgn) : Prop := ∀ x, x ∈ L → x.kind = 2 → ∃ n : Nat, Lib.atoi x.text = some (n : Int) ∧ x.text.length ≤ 18
def numN (t : List UInt8) : Nat := ((Lib.atoi t).getD 0).toNat
def numU (e : Nat) (L : List Sgn) : PU Nat := bu (kindU e L 2) fun t L => .ok (numN t, L)
/-- A term. -/
structure Trm where
  var : Bool
  nm : List UInt8
  n : Int
def trmC (t : Trm) : List VV := [.bool t.var, .str t.nm, .int .i64 t.n]
def isNum : List Sgn → Bool
  | [] => false
  | x :: _ => decide (x.kind = 2)
def termU (e : Nat) (L : List Sgn) : PU Trm := if isNum L = true then bu (numU e L) fun n L => .ok (⟨false, [], (n : Int)⟩, L) else bu (nameU e L) fun t L => .ok (⟨true, t, 0⟩, L)
end Go.Proofs.YtdibndmkeipgbaaGreatDoor
set_option maxRecDepth 100000
namespace Go.Proofs.YtdibndmkeipgbaaGreatDoor
open Go.RowKit
def listGo {α : Type} (e : Nat) (one : List Sgn → PU α) (ks : List Int) : Nat → List α → List Sgn → PU (List α)
  | 0, _, _ => .error (0, 0)
  | f + 1, out, L => bu (roomU e L out.length 8 (nextB ks L)) fun _ L => bu (one L) fun x L => if isT L 0 [44] = true then listGo e one ks f (out ++ [x]) L.tail else .ok (out ++ [x], L)
def listU {α : Type} (e : Nat) (one : List Sgn → PU α) (ks : List Int) (L : List Sgn) : PU (List α) :=
  bu (mustU e L [40]) fun _ L => bu (listGo e one ks (L.length + 1) [] L) fun xs L => bu (mustU e L [41]) fun _ L => .ok (xs, L)
theorem mustU_inv {e : Nat} {L L' : List Sgn} {t : List UInt8} {u : Unit} (h : mustU e L t = .ok (u, L')) : L' = L.tail ∧ isT L 0 t = true ∧ L'.length < L.length := by
  unfold mustU at h
  split at h
  · rename_i hi
    injection h with h; injection h with _ h; subst h
    refine ⟨rfl, hi, ?_⟩
    cases L with
    | nil => simp [isT] at hi
    | cons x L => simp
  · cases h
theorem GoodU.tail {L : List Sgn} (h : GoodU L) : GoodU L.tail := fun x hx => h x (List.mem_of_mem_tail hx)
theorem GoodU.sub {L L' : List Sgn} (h : GoodU L) (hs : ∀ y, y ∈ L' → y ∈ L) : GoodU L' := fun x hx => h x (hs x hx)

/-- An atom. -/
structure Atm where
  not : Bool
  rel : List UInt8
  ts : List Trm
def atmC (a : Atm) : List VV := [.bool a.not, .str a.rel, .lst (a.ts.map trmC) .no]
def atomU (e : Nat) (L : List Sgn) (nt : Bool) : PU Atm := bu (nameU e L) fun rel L => bu (listU e (termU e) [1, 2] L) fun ts L => .ok (⟨nt, rel, ts⟩, L)
end Go.Proofs.YtdibndmkeipgbaaGreatDoor
