/- Walks of functions that the claim reaches, and plain facts of them. Conditions: those in the statements. -/
import Derived.Test.YtndlnadbnganeaaGreatDoorJnArrj
import Derived.Test.YtndlnadbnganeaaGreatDoorJnVj
set_option linter.unusedSimpArgs false
set_option linter.unusedVariables false
set_option maxRecDepth 100000
namespace Go.Proofs.YtndlnadbnganeaaGreatDoor
open Go.RowKit
def DomsFit (ds:List Dm):Prop:=ds.length≤140737488355328∧∀d,d∈ds→d.1.length≤140737488355328
section
variable {H : Type} {enc : TypeId × Value → H} {w : World}
theorem rd_dom {fuel:Nat}{cs:List Value}{x:DataW H×List MemPlace}(h:DataW.trod enc Tryz.prog w 0 (fun _=>true) true fuel 31 cs=some x)(hw:Wt Tryz.prog 31 x.1) :
  ∃d:Dm,CellsR (GhW w) cs [.str d.1,.int .i64 d.2]∧d.1.length≤140737488355328:=by
 obtain⟨n,hn,hl,hf⟩:=rd_fields Tryz.underlying31 (by kernel_rfl) (fieldsOk_spec (by decide +kernel)) h hw
 obtain⟨v0,y0,e0,t0,w0⟩:=hf 0 _ rfl
 obtain⟨v1,y1,e1,t1,w1⟩:=hf 1 _ rfl
 obtain⟨d,r0,l0⟩:=rd_str (GhW w) Tryz.underlying9 t0 w0
 obtain⟨k,r1,_⟩:=rd_i64 (GhW w) Tryz.underlying3 t1
 refine⟨(d,k),CellsR.of (by rw[hl];rfl) fun j y hy=>?_,reach_le l0⟩
 match j with
 |0=>simp at hy;subst hy;exact⟨v0,e0,r0.get1⟩
 |1=>simp at hy;subst hy;exact⟨v1,e1,r1.get1⟩
 |j+2=>simp at hy
theorem rd_doms {fuel:Nat}{cs:List Value}{x:DataW H×List MemPlace}(h:DataW.trod enc Tryz.prog w 0 (fun _=>true) true fuel 24 cs=some x)(hw:Wt Tryz.prog 24 x.1) :
  ∃ds:List Dm,CellsR (GhW w) cs [.lst (domsI ds) .no]∧DomsFit ds:=by
 obtain⟨xss,h1,h2,h3⟩:=rd_slice (Q:=fun xs=>∃d:Dm,xs=[.str d.1,.int .i64 d.2]∧d.1.length≤140737488355328) (sz:=2) Tryz.underlying24 (by kernel_rfl) (by omega) (by decide +kernel) h hw (fun n cs' y _ hy hwy=>by
  obtain⟨d,hd,hl⟩:=rd_dom hy hwy
  exact⟨_,hd,rfl,d,rfl,hl⟩)
 obtain⟨l,rfl,hl⟩:=list_of (C:=fun d:Dm=>[VV.str d.1,.int .i64 d.2]) xss h2
 exact⟨l,h1,by rw[List.length_map]at h3;exact reach_le h3,hl⟩
end
theorem CodeNobody_S (s:St)(ds:List Dm)(od:List UInt8)(vars:Int)(hd:DomsFit ds)(hol:od.length≤140737488355328):SRet Tryz.prog 9 [.lst (domsI ds) .no,.str od,.int .i64 vars] s (.bool true) s:=
 CodeNobodyC_S s ds od vars hd.1 hd.2 hol
end Go.Proofs.YtndlnadbnganeaaGreatDoor
