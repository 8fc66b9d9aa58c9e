/- What is proved: From a contract told of values to the call itself, in whatever memory. Conditions: those that stand in the statements. -/
import Derived.Test.YtdibndmkeipgbaaDoorZGpj
set_option linter.unusedSimpArgs false
set_option linter.unusedVariables false
namespace Go.Proofs.YtdibndmkeipgbaaDoor
open Go.RowKit

/-- All that memory holds ahead of the call is known for ever. -/
def GhW (w : World) : Gh := ⟨fun b i => w.cell? ⟨b, i, none⟩, fun _ => none⟩
def S0 : St := fun _ => .free
theorem Sim.start (w : World) (hg : GLB w) : Sim w (GhW w) w S0 := ⟨Below.refl _ _, fun _ _ _ h => h, fun _ _ h => (by cases h), fun _ => trivial, hg, fun _ _ => none, fun _ _ _ _ _ h => (by cases h), fun _ _ _ h => (by cases h), fun _ _ _ _ _ _ _ h => (by cases h)⟩
theorem SRet.calls {P : Program} {f : FuncId} {xs : List VV} {vs : Array Value} {w : World} (h : SRet P f xs S0 (.bool true) S0) (hr : RL (GhW w) vs xs) (hg : GLB w := by exact trivial) :
    Calls P f vs w fun e w' => e = .returned (.bool true) ∧ Below w.heap.size w w' := by
  refine Calls.mono (h w (GhW w) w vs (Sim.start w hg) hr) fun e w' hq => ?_
  obtain ⟨G', s', x, hG, hS, hE, hx, _⟩ := hq
  subst hx
  refine ⟨?_, hS.below⟩
  cases e with
  | returned v =>
    have hv : R G' v (.bool true) := hE
    cases hv
    rfl
  | _ => exact hE.elim
theorem RL.one {G : Gh} {v : Value} {x : VV} (h : R G v x) : RL G #[v] [x] :=
  ⟨rfl, fun j v' y hv hy => by
    cases j with
    | zero => simp at hv hy; subst hv; subst hy; exact h
    | succ j => simp at hy⟩
theorem RL.two {G : Gh} {v u : Value} {x y : VV} (h : R G v x) (k : R G u y) : RL G #[v, u] [x, y] :=
  ⟨rfl, fun j v' y' hv hy => by
    match j with
    | 0 => simp at hv hy; subst hv; subst hy; exact h
    | 1 => simp at hv hy; subst hv; subst hy; exact k
    | j + 2 => simp at hy⟩
end Go.Proofs.YtdibndmkeipgbaaDoor
