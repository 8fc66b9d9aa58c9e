/- What is proved: What SoundLess hands back. Conditions: what fits a memory. Conditions: those that stand in the statements. -/
import Derived.Test.YtdibndmkeipgbaaDoorZYrj
import Derived.Test.YtdibndmkeipgbaaDoorZBit
set_option linter.unusedSimpArgs false
set_option linter.unusedVariables false
set_option maxRecDepth 100000
namespace Go.Proofs.YtdibndmkeipgbaaDoor
open Go.RowKit

attribute [local go_sem] disown_fl owned_fl own_fl

/-- A program whose lists are owned, or not. -/
theorem pg_wk {f : FuncId} {y : VV} {t u : St} {X1 X2 X3 : List (List VV)} (h : SRet Tryd.prog f [.agg [.lst X1 .no, .lst X2 .no, .lst X3 .no]] t y u) (o1 o2 o3 : Own) : SRet Tryd.prog f [.agg [.lst X1 o1, .lst X2 o2, .lst X3 o3]] t y u :=
  SCalls.wk h rfl fun j x y hx hy => by
    match j with
    | 0 => simp at hx hy; subst hx; subst hy; exact Wk.agg (.lst _ _ (.lst _ _ (.lst _ _ .nil)))
    | j + 1 => simp at hx
end Go.Proofs.YtdibndmkeipgbaaDoor
