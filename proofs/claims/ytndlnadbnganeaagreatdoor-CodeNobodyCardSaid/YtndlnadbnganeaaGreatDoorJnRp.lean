/- Walks of functions that the claim reaches, and plain facts of them. Conditions: those in the statements. -/
import Derived.Test.YtndlnadbnganeaaGreatDoorProg
import Derived.Test.YtndlnadbnganeaaGreatDoorJnShelf
import Derived.Tactics
import Derived.Tactics2
import Derived.Laws.Pointers
import Derived.RegionTactic
import Derived.RegionCalls
set_option linter.unusedSimpArgs false
set_option linter.unusedVariables false
set_option maxRecDepth 100000
namespace Go.Proofs.YtndlnadbnganeaaGreatDoor
open Go.RowKit Go.Lib
def oddB (c:Nat):Bool:=((decide (c<97) || decide (122<c)) && (decide (c<65) || decide (90<c))) && (decide (c<48) || decide (57<c))
set_option maxHeartbeats 4000000 in
theorem n_odd (W:World)(x:Nat):FnGives Tryz.prog 145 #[] #[.int .i32 (x:Int)] (.bool (oddB x)) W:=by
 unfold FnGives
 go_enter Tryz.func145,Tryz.ntmps145
 go_wp2
 all_goals go_ret
 all_goals refine⟨?_,0,rfl⟩
 all_goals refine congrArg (fun b=>Ending.returned (Value.bool b)) (?_:_=oddB x)
 all_goals rw[Bool.eq_iff_iff]
 all_goals simp only[oddB,Bool.and_eq_true,Bool.or_eq_true,decide_eq_true_eq]
 all_goals first|omega|(simp;omega)
def alnB (b:UInt8):Bool:=!oddB b.toNat
theorem idx_odd (s:ByteArray)(w:World):Calls Tryz.prog 146 #[.string s,.func (.func 145) #[] #[]] w fun e w'=>e=.returned (.int .i64 (Lib.idxFunc oddB true s))∧Below w.heap.size w w':=
 Tryz.strings_IndexFunc 145 #[] (enters_of Tryz.func145 (by kernel_rfl) rfl) oddB s w fun W x _=>n_odd W x
end Go.Proofs.YtndlnadbnganeaaGreatDoor
