/- Walks of functions, and plain facts. Conditions: those in the statements. -/
import Derived.Test.YteldpmgepfaiiaaGreatDoorQsZk
set_option linter.unusedSimpArgs false
set_option linter.unusedVariables false
set_option maxRecDepth 100000
namespace Go.Proofs.YteldpmgepfaiiaaGreatDoor
open Go.RowKit
theorem kS {x:Pgm}{T0:Rlt}{L:List Tbl}(h:EvalOk x T0 L)(hd:∀s n r,Mdl x.rules (stN x) T0 s n r->∃k,cO x.decls n=some k):¬ pe x T0:=by
 rintro⟨s,n,l,h1,h2,h3,h4⟩
 have hl0:0<l.length:=by omega
 obtain⟨r0,hr0⟩:=aN hl0
 obtain⟨k,hk⟩:=hd s n r0 (h4 r0 (p_ hr0))
 have hkn:=cI (show ixT n (x.decls.map (·.name))=some k from hk)
 rw[<- h.nm,c_]at hkn
 obtain⟨t,ht,htn⟩:=Option.map_eq_some_iff.1 hkn
 have hrow:=h.row t (p_ ht)
 have:=rk h2 fun r hr=>(hrow.2.2 r).2 (by rw[htn];exact vr h1 (h4 r hr))
 omega
end Go.Proofs.YteldpmgepfaiiaaGreatDoor
