/- Walks of functions that the claim reaches, and plain facts of them. Conditions: those in the statements. -/
import Derived.Test.YtndlnadbnganeaaGreatDoorJjPkj
import Derived.Test.YtndlnadbnganeaaGreatDoorJjSx
set_option linter.unusedSimpArgs false
set_option linter.unusedVariables false
set_option maxRecDepth 100000
namespace Go.Proofs.YtndlnadbnganeaaGreatDoor
open Go.RowKit
def TrisFit (T:List Tri):Prop:=T.length≤140737488355328
section
variable {H : Type} {enc : TypeId × Value → H} {w : World}
theorem rd_tris {fuel:Nat}{cs:List Value}{x:DataW H×List MemPlace}(h:DataW.trod enc Tryz.prog w 0 (fun _=>true) true fuel 40 cs=some x)(hw:Wt Tryz.prog 40 x.1) :
  ∃T:List Tri,CellsR (GhW w) cs [.lst (trisC T) .no]∧TrisFit T:=by
 obtain⟨xss,h1,h2,h3⟩:=rd_slice (Q:=fun xs=>∃t:Tri,xs=[.int .i64 t.1,.int .i64 t.2.1,.int .i64 t.2.2]∧True) (sz:=3) Tryz.underlying40 (by kernel_rfl) (by omega) (by decide +kernel) h hw (fun n cs' y _ hy hwy=>by
  obtain⟨l,hn,hc,hb⟩:=rd_arr (GhW w) Tryz.underlying41 Tryz.underlying3 (by kernel_rfl) (by kernel_rfl) hy
  obtain⟨a,b,c,rfl⟩:=len_three hn
  exact⟨_,hc,rfl,(a,b,c),rfl,trivial⟩)
 obtain⟨l,rfl,_⟩:=list_of (C:=fun t:Tri=>[VV.int .i64 t.1,.int .i64 t.2.1,.int .i64 t.2.2]) xss h2
 exact⟨l,h1,by rw[List.length_map]at h3;exact reach_le h3⟩
end
end Go.Proofs.YtndlnadbnganeaaGreatDoor
