/- The analysis's rules and tables of any facts, or that these may not be. Conditions: the row's own alone. -/
import Derived.Test.YtgdbgfjhenobdaaGreatDoorRows
import Derived.Test.YtgdbgfjhenobdaaGreatDoorCards
import Derived.Test.YtgdbgfjhenobdaaGreatDoorTie
import Derived.Test.YtgdbgfjhenobdaaGreatDoorJmDx
import Derived.Test.YtgdbgfjhenobdaaGreatDoorJmDej
import Derived.Test.YtgdbgfjhenobdaaGreatDoorJmGpj
import Derived.WalkKit
import Derived.ProofKit
import Derived.OpenShut
import Derived.ShutString
import Derived.Carry
import Derived.SizedLaws
import Derived.LaidMore
import Derived.SevenTiedAt
import Derived.Lib.LaidTab
set_option linter.unusedSimpArgs false
set_option linter.unusedVariables false
namespace Go.Proofs.YtgdbgfjhenobdaaGreatDoor.factsProgram
open Go.ChangeShapes Go.WideShapes Go.ChangeAt Go.RowKit
open Go.ChangeMaps (open_string shut_string)
theorem own:ownKnob Tryz.prog.godebug=none:=by kernel_rfl
theorem laid:laidOutB Tryz.prog=true:=by kernel_rfl
theorem walk (w0:Value)(x0:Fcs)(o0:FcsOk x0)(w:World)(hg:GLB w)(hr0:R (GhW w) w0 (.agg (fcsC x0))) :
  Calls Tryz.prog 3 #[w0] w fun e w'=>e=.returned (.bool true)∧Below w.heap.size w w':=
 (FactsProgram_S x0 o0 S0).calls (RL.one hr0) hg
theorem door_met (os:Os)(args:Array Value):laidMetH Tryz.prog Rows.factsProgramRow.laid ((World.doorLaid Tryz.prog 62 os).forCall (fun _ _=>0) ⟨#[],args,[]⟩).memory:=
 laidMetH_of_parts3 (fuel:=8) (laidMet_of_run' 8 (by kernel_rfl) (by kernel_rfl)) (by kernel_rfl) (by kernel_rfl)
set_option maxRecDepth 100000 in
theorem of_laid {W:World}(h:laidMetH Tryz.prog Rows.factsProgramRow.laid W):GLB W:=by
 rw[MakeChecks.laidMetH_plain _ _ _ (by kernel_rfl)]at h
 obtain⟨ps,⟨g0,t0,cs0,f0,p0,q0,hg0,ht0,hv0,hd0,⟨g1,t1,cs1,f1,p1,q1,hg1,ht1,hv1,hd1,⟨g2,t2,cs2,f2,p2,q2,hg2,ht2,hv2,hd2,_,_⟩,_⟩,_⟩,_,_⟩:=h
 have e2:Tryz.prog.globalNamed "internal/strconv.uint64pow10"=some 3:=by kernel_rfl
 have e3:(Tryz.prog.globals[3]?).map (·.type)=some 267:=by kernel_rfl
 obtain rfl:=Option.some.inj (e2.symm.trans hg2)
 obtain rfl:=Option.some.inj (e3.symm.trans ht2)
 have hd:Rows.laid_internal_strconv_uint64pow10=Go.Lib.tabData (H:=Unit) .u64 Go.Lib.pow10Tab:=by rfl
 rw[hd]at hd2
 show Go.Lib.TabIs _ _ _ _ _
 unfold Go.Lib.TabIs
 rw[hv2,← Go.Lib.cells_of_tab Tryz.underlying267 Tryz.underlying193 (by kernel_rfl) (by kernel_rfl) hd2]
set_option maxRecDepth 100000 in
theorem lifted (os:Os)(started:os.Started)(H:Type)(enc:TypeId×Value→H) :
  ReturnsInHanded {} Tryz.checked os 3 .any (fun w args=>(Rows.factsProgramSpec.pre enc Tryz.prog Tryz.f3 [] false w args∧laidMetH Tryz.prog Rows.factsProgramRow.laid w)∧sizedMet enc Tryz.prog Tryz.f3 (OpenSpec.ofChange Rows.factsProgramSpec) false w args) (Rows.factsProgramSpec.post enc Tryz.prog Tryz.f3 false true false false):=by
 refine returnsInHanded_of_change_and (C:=Tryz.checked) (X:=fun w _=>laidMetH Tryz.prog Rows.factsProgramRow.laid w) (fun _ _ _ hh h=>h.of_heap hh) own started (by kernel_rfl) Tryz.func3
  (ChangeSpec.witness_shaped (enc:=enc) (C:=Tryz.checked) (os:=os) (X:=fun w _=>laidMetH Tryz.prog Rows.factsProgramRow.laid w) false (World.doorLaid Tryz.prog 62 os) #[.agg #[.slice none 0 0,.slice none 0 0,.slice none 0 0,.slice none 0 0,.slice none 0 0,.slice none 0 0,.slice none 0 0,.slice none 0 0,.int .i64 0,.slice none 0 0,.slice none 0 0,.slice none 0 0,.slice none 0 0,.slice none 0 0,.slice none 0 0,.slice none 0 0,.slice none 0 0,.slice none 0 0,.slice none 0 0,.slice none 0 0,.slice none 0 0]] 8 rfl (World.shaped_of_RefB (by kernel_rfl) (by kernel_rfl)) (by kernel_rfl) (by kernel_rfl) (by kernel_rfl) (door_met os _)) ?_
 intro W base args ds gs before hval0 hW hcnd hsz0 hL _
 have hsz:(DataW.weightsEach Tryz.prog (Tryz.f3.params.toList++Rows.factsProgramSpec.plain.varTypes Tryz.prog) (ds++gs)).all (·≤reachBytes)=true:=hsz0
 clear hsz0
 have hval:∀(j:Nat) t v,Tryz.f3.params[j]?=some t→args[j]?=some v→Value.okWide Tryz.prog W .any base t v:=hval0
 have hW':=hW
 obtain⟨p,q,hA0,hV,rfl,hfz,hnd⟩:=hW
 have hA:DataW.TrodAll enc Tryz.prog W 0 (fun _=>true) true Tryz.f3.params.toList args.toList ds p:=hA0
 rw[Tryz.params3]at hA hval hsz
 obtain⟨v0,vs0,d0,ds0,p0,q0,hargs,rfl,rfl,h0,r0⟩:=trodAll_cons hA
 obtain⟨rfl,rfl,rfl⟩:=trodAll_nil r0
 obtain rfl:args=#[v0]:=by cases args;simp_all
 obtain⟨rfl,rfl⟩:=trodVars_none hV
 have hv0:=hval 0 26 v0 rfl rfl
 obtain⟨us0,rfl,_⟩:=okWide_struct Tryz.underlying26 hv0
 obtain⟨fuel0,hf0⟩:=id h0
 have hw0:Wt Tryz.prog 26 d0:=fun n hn=>by
  have:=List.all_eq_true.1 hsz n (DataW.weights_mem_each (j:=0) rfl rfl n hn)
  simpa using this
 obtain⟨x0,hc0,ho0⟩:=rd_fcs hf0 hw0
 clear hA0 hval0
 simp only[List.append_nil]at hW'
 have hlt0:∀z∈p0,z.block<W.heap.size:=fun z hz=>hW'.lt z (by simp[hz])
 have hr0:R (GhW W) (.agg us0) (.agg (fcsC x0)):=R.agg us0 _ (by have:=hc0.1;simpa [Value.cells]using this) hc0.2.1 (fun j v y h1 h2=>hc0.2.2 j v y (by simpa [Value.cells]using h1) h2)
 refine(walk _ x0 ho0 W (of_laid hL) hr0).mono fun e W' ⟨he,hg⟩=>?_
 subst he
 exact⟨_,rfl,_,_,_,[],_,[],hW',(trodAll_cons_mk (shut_bool Tryz.underlying4 _) trodAll_mk0),(trodAll_cons_mk (Below.trod laid (by kernel_rfl) (of_decide_eq_true (by kernel_rfl)) h0 hg hlt0) trodAll_mk0),rfl,hg.frame _,fun h=>by cases h⟩
theorem over:Rows.factsProgramRow.holds Tryz.pinned (OpenSpec.ofChange Rows.factsProgramSpec):=
 OpenClaim.holds_of_wide 3 Tryz.f3 rfl rfl rfl rfl rfl rfl rfl ⟨rfl,rfl,rfl,rfl,rfl⟩ rfl rfl rfl rfl rfl (by kernel_rfl) Tryz.func3 (by kernel_rfl)
  (of_decide_eq_true (by kernel_rfl)) (by unfold Func.isWrapper;first|(rw[if_pos (by decide +kernel)];kernel_rfl)|(rw[if_neg (by decide +kernel)];exact⟨rfl,rfl⟩))
  (fun os started H enc _=>lifted os started H enc)
theorem proved:Rows.FactsProgramCardSaid:=
 Claim7.holds_tied_plain_at .later [] [.data,.data,.data,.sentinel,.sentinel] true (true,"c9db70d8e2403248a1779b21a7fe5ade3779c47a6c0dded6b7ff024d3f0e67b4") true
  over (fun _ h=>by cases h) (by kernel_rfl) (fun _ h=>by cases h) factsProgram_row_tie rfl ⟨rfl,rfl⟩ (by kernel_rfl) rfl
  (fun f fn hf hfn=>by
   obtain rfl:f=3:=Option.some.inj ((show Tryz.prog.funcNamed "osier/osierlaw18.FactsProgram"=some 3 by kernel_rfl).symm.trans hf)|>.symm
   obtain rfl:fn=Tryz.f3:=(Option.some.inj (Tryz.func3.symm.trans hfn)).symm
   exact⟨by kernel_rfl,fun j t ht=>by
    rw[Tryz.params3]at ht
    have hm:t∈[26]:=by simpa using Array.mem_of_getElem? ht
    have hall:([26].all fun u=>!Tryz.prog.wantsStandIn u)=true:=by kernel_rfl
    exact(show Tryz.prog.wantsStandIn t=false by simpa using List.all_eq_true.1 hall t hm)⟩)
  (by kernel_rfl)
end Go.Proofs.YtgdbgfjhenobdaaGreatDoor.factsProgram
