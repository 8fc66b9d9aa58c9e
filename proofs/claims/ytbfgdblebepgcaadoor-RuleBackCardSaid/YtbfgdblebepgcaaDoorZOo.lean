/- What is proved: What the reader of package oo hands back. Conditions: those that stand in the statements. -/
import Derived.Test.YtbfgdblebepgcaaDoorZLexj
set_option linter.unusedSimpArgs false
set_option linter.unusedVariables false
namespace Go.Proofs.YtbfgdblebepgcaaDoor
open Go.RowKit

def kwB (t : List UInt8) : Bool :=
  decide (t = [99, 108, 97, 115, 115]) || decide (t = [101, 120, 116, 101, 110, 100, 115]) || decide (t = [115, 116, 97, 116, 105, 99]) || decide (t = [110, 101, 119]) || decide (t = [114, 101, 116, 117, 114, 110]) || decide (t = [105, 102]) || decide (t = [101, 108, 115, 101]) || decide (t = [108, 111, 111, 112])

def isT (L : List Sgn) (a : Nat) (t : List UInt8) : Bool := match L[a]? with | some x => decide (x.text = t) | none => false
def place (e : Nat) : List Sgn → Nat
  | [] => e
  | x :: _ => x.at_
theorem sgn_get {L : List Sgn} {a : Nat} {x : Sgn} (h : L[a]? = some x) : (L.map sgnC)[a]? = some [.int .i64 x.kind, .str x.text, .int .i64 x.at_] := by
  rw [List.getElem?_map, h]; rfl
theorem sgn_all (L : List Sgn) (x : List VV) : (x ∈ L.map sgnC → x.length = 3) = True := by
  apply eq_true
  intro h
  obtain ⟨y, _, rfl⟩ := List.mem_map.1 h
  rfl
theorem sgn_all2 (x : Sgn) (L : List Sgn) : (∀ y, y ∈ [VV.int .i64 x.kind, VV.str x.text, VV.int .i64 x.at_] :: L.map sgnC → y.length = 3) = True := by
  apply eq_true
  intro y h
  rcases List.mem_cons.1 h with rfl | h
  · rfl
  · obtain ⟨y, _, rfl⟩ := List.mem_map.1 h; rfl
theorem sgn_take (L : List Sgn) : (L.map sgnC).take L.length = L.map sgnC := List.take_of_length_le (by simp)

/-- What a reader's method comes to: a value, and the signs that are left; or a stop. -/
abbrev PR (α : Type) := Except (Nat × Nat) (α × List Sgn × Nat)
theorem fin_normP {P : Program} {env : Env} {s : St} {v : VV} {rs : List ResultVar} {Q : SEnd → St → Prop} (h : vres P env s rs = some v) (hq : Q (.ret v) s) : Qf P rs Q .norm env s := ⟨v, h, v, s, Wk.refl v, Fg.refl s, hq⟩
theorem fin_retP {P : Program} {env : Env} {s : St} {v : VV} {rs : List ResultVar} {Q : SEnd → St → Prop} (h : vres P env s rs = some v) (hq : Q (.ret v) s) : Qf P rs Q .ret env s := ⟨v, h, v, s, Wk.refl v, Fg.refl s, hq⟩
theorem fin_panP {P : Program} {env : Env} {s : St} {v : VV} {rs : List ResultVar} {Q : SEnd → St → Prop} (hq : Q (.panic v) s) : Qf P rs Q (.panic v) env s := ⟨s, Fg.refl s, hq⟩
def unitV (_ : Unit) : VV := .tup []

def mustP (e : Nat) (L : List Sgn) (n : Nat) (t : List UInt8) : PR Unit := if isT L 0 t then .ok ((), L.tail, n) else .error (place e L, 150)
def namedB : List Sgn → Bool
  | [] => false
  | x :: _ => decide (x.kind = 1) && !kwB x.text
def nameP (e : Nat) (L : List Sgn) (n : Nat) : PR (List UInt8) :=
  match L with
  | [] => .error (e, 150)
  | x :: L' => if namedB (x :: L') then .ok (x.text, L', n) else .error (x.at_, 150)
def roomP (e : Nat) (L : List Sgn) (n : Nat) (hv mst : Nat) (b : Bool) : PR Unit := if mst ≤ hv ∧ b = true then .error (place e L, 2) else .ok ((), L, n)
end Go.Proofs.YtbfgdblebepgcaaDoor
