/- Walks of functions, and plain facts. Conditions: those in the statements. -/
import Derived.Test.YteldpmgepfaiiaaGreatDoorQsZm
import Derived.Test.YteldpmgepfaiiaaGreatDoorQsMd
set_option linter.unusedSimpArgs false
set_option linter.unusedVariables false
set_option maxRecDepth 100000
namespace Go.Proofs.YteldpmgepfaiiaaGreatDoor
open Go.RowKit
attribute [local go_sem] aH aV cH
theorem ql {x:Pgm}{L:List Tbl}{e:Int}(hds:∀d,d∈x.doms->d.size<=256)(h:bQ x [] L e):L.length<=1000000/\∀y,y∈L->iv y.rs:=by
 unfold bQ at h
 split at h
 ·rw[h.1];exact⟨by simp,fun y hy=>by cases hy⟩
 ·split at h
  ·rw[h.1];exact⟨by simp,fun y hy=>by cases hy⟩
  ·rename_i h1 h2
   rcases h with ⟨_,h⟩|⟨_,h,_⟩
   ·exact BK (g:=[]) (e:=0) hds (fun t ht=>by cases ht) (by unfold eR;rw[if_neg h1,if_neg h2];exact⟨rfl,h⟩)
   ·rw[h];exact⟨by simp,fun y hy=>by cases hy⟩
theorem qW {x:Pgm}(hx:PgmOk x)(hds:∀d,d∈x.doms->d.size<=256)(o1 o2 o3 oL:Own)(t:St) :
  SCalls Tryz.prog 14 [.agg [.lst (x.doms.map dmC) o1,.lst (x.decls.map az) o2,.lst (x.rules.map ax) o3],.lst [] oL] t fun w u=>∃q:List Tbl×Int,w=.ret (.tup [.lst (q.1.map aX) .no,.int .i64 q.2])/\u=t/\bQ x [] q.1 q.2:=
 SCalls.wk (rW x [] oL hx hds (by simp) (fun t ht=>by cases ht) t) rfl fun j a b ha hb=>by
  match j with
  |0=>simp at ha hb;subst ha;subst hb;exact Wk.agg (.lst _ _ (.lst _ _ (.lst _ _ .nil)))
  |1=>simp at ha hb;subst ha;subst hb;exact Wk.refl _
  |j+2=>simp at ha
theorem yg (x:Pgm)(hx:PgmOk x)(hno:¬ (wm x/\we x)):(∀s,SRet Tryz.prog 9 [.agg (pgC x)] s (.bool false) s)\/(∀s,SCalls Tryz.prog 9 [.agg (pgC x)] s fun w u=>∃r:Bool,w=.ret (.bool r)/\u=s/\True)/\(∀s,SRet Tryz.prog 10 [.agg (pgC x)] s (.bool false) s):=by
 by_cases hF:wm x
 ·right
  exact⟨fun s=>SCalls.mono (rK x hx s) fun w u ⟨r,h1,h2,_⟩=>⟨r,h1,h2,trivial⟩,fun s=>SCalls.mono (uw x hx hF s) fun w u ⟨r,h1,h2,h3⟩=>by
   cases r with
   |false=>exact⟨h1,h2⟩
   |true=>exact absurd ⟨hF,h3 rfl⟩ hno⟩
 ·left
  exact fun s=>SCalls.mono (rK x hx s) fun w u ⟨r,h1,h2,h3⟩=>by
   cases r with
   |false=>exact⟨h1,h2⟩
   |true=>exact absurd (h3 rfl) hF
theorem yi (x:Pgm)(hx:PgmOk x)(hF:wm x):(∀s,SCalls Tryz.prog 9 [.agg (pgC x)] s fun w u=>∃r:Bool,w=.ret (.bool r)/\u=s/\True)/\(∀s,SCalls Tryz.prog 10 [.agg (pgC x)] s fun w u=>∃r:Bool,w=.ret (.bool r)/\u=s/\True):=
 ⟨fun s=>SCalls.mono (rK x hx s) fun w u ⟨r,h1,h2,_⟩=>⟨r,h1,h2,trivial⟩,fun s=>SCalls.mono (uw x hx hF s) fun w u ⟨r,h1,h2,_⟩=>⟨r,h1,h2,trivial⟩⟩
theorem JI (x:Pgm)(hx:PgmOk x)(hds:∀d,d∈x.doms->d.size<=256)(oL:Own)(s:St):SCalls Tryz.prog 13 [.agg (pgC x),.lst [] oL] s fun w u=>∃q:List Tbl×Int×Bool,w=.ret (.tup [.lst (q.1.map aX) .no,.int .i64 q.2.1,.bool q.2.2])/\u=s/\True:=
 SCalls.mono (yf x [] oL hx hds (by simp) (fun t ht=>by cases ht) s) fun w u ⟨q,h1,h2,_⟩=>⟨q,h1,h2,trivial⟩
end Go.Proofs.YteldpmgepfaiiaaGreatDoor
