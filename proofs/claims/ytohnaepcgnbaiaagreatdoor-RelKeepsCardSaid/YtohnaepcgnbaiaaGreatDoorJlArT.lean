/- Walks. Conditions: in the statements. -/
import Derived.Test.YtohnaepcgnbaiaaGreatDoorJlSdj
set_option linter.unusedSimpArgs false
set_option linter.unusedVariables false
set_option maxRecDepth 100000
namespace Go.Proofs.YtohnaepcgnbaiaaGreatDoor
open Go.RowKit
def GG (T:List Tri):Prop:=T.length<=140737488355328
section
variable {H : Type} {enc : TypeId × Value -> H} {w : World}
theorem Q7 {fuel:Nat}{cs:List Value}{x:DataW H×List MemPlace}(h:DataW.trod enc Tryz.prog w 0 (fun _=>true) true fuel 46 cs=some x)(hw:Wt Tryz.prog 46 x.1) :
  ∃T:List Tri,CellsR (GhW w) cs [.lst (k9 T) .no]/\GG T:=by
 obtain⟨xss,h1,h2,h3⟩:=Ax (Q:=fun xs=>∃t:Tri,xs=[.int .i64 t.1,.int .i64 t.2.1,.int .i64 t.2.2]/\True) (sz:=3) Tryz.underlying46 (by kernel_rfl) (by omega) (by decide +kernel) h hw (fun n cs' y _ hy hwy=>by
  obtain⟨l,hn,hc,hb⟩:=Jz (GhW w) Tryz.underlying47 Tryz.underlying3 (by kernel_rfl) (by kernel_rfl) hy
  obtain⟨a,b,c,rfl⟩:=Ls hn
  exact⟨_,hc,rfl,(a,b,c),rfl,trivial⟩)
 obtain⟨l,rfl,_⟩:=xg (C:=fun t:Tri=>[VV.int .i64 t.1,.int .i64 t.2.1,.int .i64 t.2.2]) xss h2
 exact⟨l,h1,by rw[z_]at h3;exact Aw h3⟩
end
end Go.Proofs.YtohnaepcgnbaiaaGreatDoor
