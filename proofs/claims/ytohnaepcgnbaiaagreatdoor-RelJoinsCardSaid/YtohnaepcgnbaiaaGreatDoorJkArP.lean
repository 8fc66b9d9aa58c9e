/- Walks of functions that the claim reaches, and plain facts of them. Conditions: those in the statements. -/
import Derived.Test.YtohnaepcgnbaiaaGreatDoorJkPkj
import Derived.Test.YtohnaepcgnbaiaaGreatDoorJkEuj
set_option linter.unusedSimpArgs false
set_option linter.unusedVariables false
set_option maxRecDepth 100000
namespace Go.Proofs.YtohnaepcgnbaiaaGreatDoor
open Go.RowKit
def rM (T:List Par):Prop:=T.length<=140737488355328
section
variable {H : Type} {enc : TypeId × Value -> H} {w : World}
theorem wY {fuel:Nat}{cs:List Value}{x:DataW H×List MemPlace}(h:DataW.trod enc Tryz.prog w 0 (fun _=>true) true fuel 22 cs=some x)(hw:Wt Tryz.prog 22 x.1) :
  ∃T:List Par,CellsR (GhW w) cs [.lst (cu T) .no]/\rM T:=by
 obtain⟨xss,h1,h2,h3⟩:=Ax (Q:=fun xs=>∃t:Par,xs=[.int .i64 t.1,.int .i64 t.2]/\True) (sz:=2) Tryz.underlying22 (by kernel_rfl) (by omega) (by decide +kernel) h hw (fun n cs' y _ hy hwy=>by
  obtain⟨l,hn,hc,hb⟩:=Jz (GhW w) Tryz.underlying43 Tryz.underlying3 (by kernel_rfl) (by kernel_rfl) hy
  obtain⟨a,b,rfl⟩:=EE hn
  exact⟨_,hc,rfl,(a,b),rfl,trivial⟩)
 obtain⟨l,rfl,_⟩:=xg (C:=fun t:Par=>[VV.int .i64 t.1,.int .i64 t.2]) xss h2
 exact⟨l,h1,by rw[z_]at h3;exact Aw h3⟩
end
end Go.Proofs.YtohnaepcgnbaiaaGreatDoor
