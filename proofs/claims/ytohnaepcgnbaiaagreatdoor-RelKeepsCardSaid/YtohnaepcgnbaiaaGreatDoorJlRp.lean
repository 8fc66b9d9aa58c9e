/- Walks. Conditions: in the statements. -/
import Derived.Test.YtohnaepcgnbaiaaGreatDoorJlShelf
import Derived.Tactics
import Derived.Tactics2
import Derived.Laws.Pointers
import Derived.RegionTactic
import Derived.RegionCalls
set_option maxHeartbeats 32000000
set_option linter.unusedSimpArgs false
set_option linter.unusedVariables false
set_option maxRecDepth 100000
namespace Go.Proofs.YtohnaepcgnbaiaaGreatDoor
open Go.RowKit Go.Lib
def jM (c:Nat):Bool:=((decide (c<97) || decide (122<c)) && (decide (c<65) || decide (90<c))) && (decide (c<48) || decide (57<c))
theorem Pz (W:World)(x:Nat):FnGives Tryz.prog 158 #[] #[.int .i32 (x:Int)] (.bool (jM x)) W:=by
 unfold FnGives
 go_enter Tryz.func158,Tryz.ntmps158
 go_wp2
 all_goals go_ret
 all_goals refine⟨?_,0,rfl⟩
 all_goals refine congrArg (fun b=>Ending.returned (Value.bool b)) (?_:_=jM x)
 all_goals rw[Bool.eq_iff_iff]
 all_goals simp only[jM,Bool.and_eq_true,Bool.or_eq_true,decide_eq_true_eq]
 all_goals first|omega|(simp;omega)
def tS (b:UInt8):Bool:=!jM b.toNat
theorem EM (s:ByteArray)(w:World):Calls Tryz.prog 159 #[.string s,.func (.func 158) #[] #[]] w fun e w'=>e=.returned (.int .i64 (Lib.idxFunc jM true s))/\Below w.heap.size w w':=
 Tryz.strings_IndexFunc 158 #[] (enters_of Tryz.func158 (by kernel_rfl) rfl) jM s w fun W x _=>Pz W x
end Go.Proofs.YtohnaepcgnbaiaaGreatDoor
