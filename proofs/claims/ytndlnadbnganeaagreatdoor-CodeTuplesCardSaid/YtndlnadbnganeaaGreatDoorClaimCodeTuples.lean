/- What was put in is told. Conditions: the row's own alone. -/
import Derived.Test.YtndlnadbnganeaaGreatDoorRows
import Derived.Test.YtndlnadbnganeaaGreatDoorCards
import Derived.Test.YtndlnadbnganeaaGreatDoorTie
import Derived.Test.YtndlnadbnganeaaGreatDoorJjSx
import Derived.Test.YtndlnadbnganeaaGreatDoorJjArT
import Derived.Test.YtndlnadbnganeaaGreatDoorJjPkj
import Derived.Test.YtndlnadbnganeaaGreatDoorJjGpj
import Derived.WalkKit
import Derived.ProofKit
import Derived.OpenShut
import Derived.ShutString
import Derived.Carry
import Derived.SizedLaws
import Derived.LaidMore
import Derived.Lay
import Derived.SevenTiedAt
import Derived.Lib.LaidTab
set_option linter.unusedSimpArgs false
set_option linter.unusedVariables false
namespace Go.Proofs.YtndlnadbnganeaaGreatDoor.codeTuples
open Go.ChangeShapes Go.WideShapes Go.ChangeAt Go.RowKit
open Go.ChangeMaps (open_string shut_string)
theorem own:ownKnob Tryz.prog.godebug=none:=by kernel_rfl
theorem laid:laidOutB Tryz.prog=true:=by kernel_rfl
theorem walk (w0:Value)(x0 y0:Int)(n1:Int)(z1:(Lit.int .i64 n1).wf=true)(w2:Value)(x2:List Tri)(o2:TrisFit x2)(w:World)(hg:GLB w)(hr0:R (GhW w) w0 (.agg [.int .i64 x0,.int .i64 y0]))(hr2:R (GhW w) w2 (.lst (trisC x2) .no)) :
  Calls Tryz.prog 5 #[w0,.int .i64 n1,w2] w fun e w'=>e=.returned (.bool true)∧Below w.heap.size w w':=
 (CodeTuples_S S0 x0 y0 n1 x2 o2).calls (RL.three hr0 (R.int .i64 n1) hr2) hg
set_option maxRecDepth 100000 in
theorem lifted (os:Os)(started:os.Started)(H:Type)(enc:TypeId×Value→H) :
  ReturnsInHanded {} Tryz.checked os 5 .any (fun w args=>(Rows.codeTuplesSpec.pre enc Tryz.prog Tryz.f5 [] false w args∧laidMetH Tryz.prog Rows.codeTuplesRow.laid w)∧sizedMet enc Tryz.prog Tryz.f5 (OpenSpec.ofChange Rows.codeTuplesSpec) false w args) (Rows.codeTuplesSpec.post enc Tryz.prog Tryz.f5 false true false false):=by
 refine handed_shaped (C:=Tryz.checked) (X:=fun w _=>laidMetH Tryz.prog Rows.codeTuplesRow.laid w) (fun _ _ _ hh h=>h.of_heap hh) own started (by kernel_rfl) Tryz.func5
  (ChangeSpec.witness_shaped (enc:=enc) (C:=Tryz.checked) (os:=os) (X:=fun w _=>laidMetH Tryz.prog Rows.codeTuplesRow.laid w) false (World.laidAll Tryz.prog os Rows.codeTuplesRow.laid) #[.agg #[.int .i64 0,.int .i64 0],.int .i64 0,.slice none 0 0] 8 (World.laidAll_os _ _ _) (World.shaped_of_ZipB (by kernel_rfl) (by kernel_rfl)) (by kernel_rfl) (by kernel_rfl) (by kernel_rfl)
   (by rw[MakeChecks.laidMetH_plain _ _ _ (by kernel_rfl)];exact laidMet_laidAll _ (by kernel_rfl) (by kernel_rfl))) ?_
 intro W base args ds gs before hshp hval0 hW hcnd hsz0 hL _
 have hsz:(DataW.weightsEach Tryz.prog (Tryz.f5.params.toList++Rows.codeTuplesSpec.plain.varTypes Tryz.prog) (ds++gs)).all (·≤reachBytes)=true:=hsz0
 clear hsz0
 have hval:∀(j:Nat) t v,Tryz.f5.params[j]?=some t→args[j]?=some v→Value.okWide Tryz.prog W .any base t v:=hval0
 have hW':=hW
 obtain⟨p,q,hA0,hV,rfl,hfz,hnd⟩:=hW
 have hA:DataW.TrodAll enc Tryz.prog W 0 (fun _=>true) true Tryz.f5.params.toList args.toList ds p:=hA0
 rw[Tryz.params5]at hA hval hsz
 obtain⟨v0,vs0,d0,ds0,p0,q0,hargs,rfl,rfl,h0,r0⟩:=trodAll_cons hA
 obtain⟨v1,vs1,d1,ds1,p1,q1,rfl,rfl,rfl,h1,r1⟩:=trodAll_cons r0
 obtain⟨v2,vs2,d2,ds2,p2,q2,rfl,rfl,rfl,h2,r2⟩:=trodAll_cons r1
 obtain⟨rfl,rfl,rfl⟩:=trodAll_nil r2
 obtain rfl:args=#[v0,v1,v2]:=by cases args;simp_all
 obtain⟨rfl,rfl⟩:=trodVars_none hV
 have hv0:=hval 0 22 v0 rfl rfl
 obtain⟨us0,rfl,_⟩:=okWide_arr Tryz.underlying22 hv0
 obtain⟨fuel0,hf0⟩:=id h0
 obtain⟨l0,hn0,hc0,hb0⟩:=rd_arr (GhW W) Tryz.underlying22 Tryz.underlying3 (by kernel_rfl) (by kernel_rfl) hf0
 obtain⟨x0,y0,rfl⟩:=len_two hn0
 obtain⟨n1,rfl,rfl,rfl,w1⟩:=open_int Tryz.underlying3 (hval 1 3 v1 rfl rfl) h1
 have hv2:=hval 2 40 v2 rfl rfl
 obtain⟨sa2,sl2,sc2,rfl⟩:=okWide_slice Tryz.underlying40 hv2
 obtain⟨fuel2,hf2⟩:=id h2
 have hw2:Wt Tryz.prog 40 d2:=fun n hn=>by
  have:=List.all_eq_true.1 hsz n (DataW.weights_mem_each (j:=2) rfl rfl n hn)
  simpa using this
 obtain⟨x2,hc2,ho2⟩:=rd_tris hf2 hw2
 clear hA0 hval0
 simp only[List.append_nil]at hW'
 have hlt0:∀z∈p0,z.block<W.heap.size:=fun z hz=>hW'.lt z (by simp[hz])
 have hr0:R (GhW W) (.agg us0) (.agg [.int .i64 x0,.int .i64 y0]):=R.agg us0 _ (by have:=hc0.1;simpa [Value.cells]using this) hc0.2.1 (fun j v y h1 h2=>hc0.2.2 j v y (by simpa [Value.cells]using h1) h2)
 have hlt2:∀z∈p2,z.block<W.heap.size:=fun z hz=>hW'.lt z (by simp[hz])
 have hr2:R (GhW W) (.slice sa2 sl2 sc2) (.lst (trisC x2) .no):=hc2.2.2 0 _ _ rfl rfl
 refine(walk _ x0 y0 n1 w1 _ x2 ho2 W (glb_shaped hshp) hr0 hr2).mono fun e W' ⟨he,hg⟩=>?_
 subst he
 exact⟨_,rfl,_,_,_,[],_,[],hW',(trodAll_cons_mk (shut_bool Tryz.underlying4 _) trodAll_mk0),(trodAll_cons_mk (Below.trod laid (by kernel_rfl) (of_decide_eq_true (by kernel_rfl)) h0 hg hlt0) (trodAll_cons_mk (shut_int Tryz.underlying3 w1) (trodAll_cons_mk (Below.trod laid (by kernel_rfl) (of_decide_eq_true (by kernel_rfl)) h2 hg hlt2) trodAll_mk0))),rfl,hg.frame _,fun h=>by cases h⟩
theorem over:Rows.codeTuplesRow.holds Tryz.pinned (OpenSpec.ofChange Rows.codeTuplesSpec):=
 OpenClaim.holds_of_wide 5 Tryz.f5 rfl rfl rfl rfl rfl rfl rfl ⟨rfl,rfl,rfl,rfl,rfl⟩ rfl rfl rfl rfl rfl (by kernel_rfl) Tryz.func5 (by kernel_rfl)
  (of_decide_eq_true (by kernel_rfl)) (by unfold Func.isWrapper;first|(rw[if_pos (by decide +kernel)];kernel_rfl)|(rw[if_neg (by decide +kernel)];exact⟨rfl,rfl⟩))
  (fun os started H enc _=>lifted os started H enc)
theorem proved:Rows.CodeTuplesCardSaid:=
 Claim7.holds_tied_plain_at .later [] [.data,.pinned] true (true,"0e0d5cd8abebae8cdc0ced51562bed4ef1b46d623177703d48300600ddeb6f0b") false
  over (fun _ h=>by cases h) (by kernel_rfl) (fun _ h=>by cases h) codeTuples_row_tie rfl ⟨rfl,rfl⟩ (by kernel_rfl) rfl
  (fun f fn hf hfn=>by
   obtain rfl:f=5:=Option.some.inj ((show Tryz.prog.funcNamed "osier/osierlaw08.CodeTuples"=some 5 by kernel_rfl).symm.trans hf)|>.symm
   obtain rfl:fn=Tryz.f5:=(Option.some.inj (Tryz.func5.symm.trans hfn)).symm
   exact⟨by kernel_rfl,fun j t ht=>by
    rw[Tryz.params5]at ht
    have hm:t∈[22,3,40]:=by simpa using Array.mem_of_getElem? ht
    have hall:([22,3,40].all fun u=>!Tryz.prog.wantsStandIn u)=true:=by kernel_rfl
    exact(show Tryz.prog.wantsStandIn t=false by simpa using List.all_eq_true.1 hall t hm)⟩)
  (by kernel_rfl)
end Go.Proofs.YtndlnadbnganeaaGreatDoor.codeTuples
