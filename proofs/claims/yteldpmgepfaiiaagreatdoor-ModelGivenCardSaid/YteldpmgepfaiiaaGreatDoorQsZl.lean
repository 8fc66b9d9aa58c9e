/- Walks of functions, and plain facts. Conditions: those in the statements. -/
import Derived.Test.YteldpmgepfaiiaaGreatDoorQsZij
set_option linter.unusedSimpArgs false
set_option linter.unusedVariables false
set_option maxRecDepth 100000
namespace Go.Proofs.YteldpmgepfaiiaaGreatDoor
open Go.RowKit
section
variable {H : Type} {enc : TypeId × Value -> H} {w : World}
theorem Dg {fuel:Nat}{cs:List Value}{x:DataW H×List MemPlace}(h:DataW.trod enc Tryz.prog w 0 (fun _=>true) true fuel 48 cs=some x)(hw:Wt Tryz.prog 48 x.1) :
  ∃r:List Int,CellsR (GhW w) cs [ca r]/\r.length<=140737488355328:=by
 obtain⟨xss,h1,h2,h3⟩:=eM (Q:=fun xs=>∃n:Int,xs=[.int .i64 n]/\True) (sz:=1) Tryz.underlying48 (by kernel_rfl) (by omega) (by decide +kernel) h hw (fun n cs' y _ hy _=>by
  obtain⟨k,hk,_⟩:=vd (GhW w) Tryz.underlying3 hy
  exact⟨[.int .i64 k],hk,rfl,k,rfl,trivial⟩)
 obtain⟨l,rfl,_⟩:=fd (C:=fun n:Int=>[VV.int .i64 n]) xss h2
 exact⟨l,h1,by rw[a_]at h3;exact cV h3⟩
theorem A3 {fuel:Nat}{cs:List Value}{x:DataW H×List MemPlace}(h:DataW.trod enc Tryz.prog w 0 (fun _=>true) true fuel 44 cs=some x)(hw:Wt Tryz.prog 44 x.1) :
  ∃l:List (List Int),CellsR (GhW w) cs [.lst (aF l) .no]/\l.length<=140737488355328/\∀r,r∈l->r.length<=140737488355328:=by
 obtain⟨xss,h1,h2,h3⟩:=eM (Q:=fun xs=>∃r:List Int,xs=[ca r]/\r.length<=140737488355328) (sz:=1) Tryz.underlying44 (by kernel_rfl) (by omega) (by decide +kernel) h hw (fun n cs' y _ hy hwy=>by
  obtain⟨r,hr1,hr2⟩:=Dg hy hwy
  exact⟨[ca r],hr1,rfl,r,rfl,hr2⟩)
 obtain⟨l,rfl,hl⟩:=fd (C:=fun r:List Int=>[ca r]) xss h2
 exact⟨l,h1,by rw[a_]at h3;exact cV h3,hl⟩
theorem G9 {fuel:Nat}{cs:List Value}{x:DataW H×List MemPlace}(h:DataW.trod enc Tryz.prog w 0 (fun _=>true) true fuel 46 cs=some x)(hw:Wt Tryz.prog 46 x.1) :
  ∃t:Tbl,CellsR (GhW w) cs (aX t)/\t.nm.length<=140737488355328/\t.rs.length<=140737488355328/\∀r,r∈t.rs->r.length<=140737488355328:=by
 obtain⟨n,hn,hl,hf⟩:=fG Tryz.underlying46 (by kernel_rfl) (dN (by decide +kernel)) h hw
 obtain⟨v0,y0,e0,t0,w0⟩:=hf 0 _ rfl
 obtain⟨v1,y1,e1,t1,w1⟩:=hf 1 _ rfl
 obtain⟨d,r0,l0⟩:=lC (GhW w) Tryz.underlying9 t0 w0
 obtain⟨l,r1,l1,l2⟩:=A3 t1 w1
 refine⟨⟨d,l⟩,CellsR.of (by rw[hl];rfl) fun j y hy=>?_,cV l0,l1,l2⟩
 simp only[aX]at hy
 match j with
 |0=>simp at hy;subst hy;exact⟨v0,e0,r0.get1⟩
 |1=>simp at hy;subst hy;exact⟨v1,e1,r1.get1⟩
 |j+2=>simp at hy
theorem Df {fuel:Nat}{cs:List Value}{x:DataW H×List MemPlace}(h:DataW.trod enc Tryz.prog w 0 (fun _=>true) true fuel 27 cs=some x)(hw:Wt Tryz.prog 27 x.1) :
  ∃l:List Tbl,CellsR (GhW w) cs [.lst (l.map aX) .no]/\rL l:=by
 obtain⟨xss,h1,h2,h3⟩:=eM (Q:=fun xs=>∃t:Tbl,xs=aX t/\t.nm.length<=140737488355328/\t.rs.length<=140737488355328/\∀r,r∈t.rs->r.length<=140737488355328) (sz:=2) Tryz.underlying27 (by kernel_rfl) (by omega) (by decide +kernel) h hw (fun n cs' y _ hy hwy=>by
  obtain⟨t,ht1,ht2⟩:=G9 hy hwy
  exact⟨aX t,ht1,rfl,t,rfl,ht2⟩)
 obtain⟨l,rfl,hl⟩:=fd xss h2
 exact⟨l,h1,by rw[a_]at h3;exact cV h3,hl⟩
end
end Go.Proofs.YteldpmgepfaiiaaGreatDoor
