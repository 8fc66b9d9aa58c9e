/- Tuples that are given are as facts: the tables are the same. Conditions: the row's own alone. -/
import Derived.Test.YteldpmgepfaiiaaGreatDoorCards
import Derived.Test.YteldpmgepfaiiaaGreatDoorTie
import Derived.Test.YteldpmgepfaiiaaGreatDoorQsZs
import Derived.Test.YteldpmgepfaiiaaGreatDoorQsZl
import Derived.ProofKit
import Derived.OpenShut
import Derived.ShutString
import Derived.Carry
import Derived.LaidMore
import Derived.SevenTiedAt
set_option linter.unusedSimpArgs false
set_option linter.unusedVariables false
namespace Go.Proofs.YteldpmgepfaiiaaGreatDoor.modelGiven
open Go.ChangeShapes Go.WideShapes Go.ChangeAt Go.RowKit
open Go.ChangeMaps (open_string shut_string)
theorem own:ownKnob Tryz.prog.godebug=none:=by kernel_rfl
theorem laid:laidOutB Tryz.prog=true:=by kernel_rfl
theorem walk (w0:Value)(x0:Pgm)(o0:PgmOk x0)(w1:Value)(x1:List Tbl)(o1:rL x1)(w:World)(hg:GLB w)(hr0:R (GhW w) w0 (.agg (pgC x0)))(hr1:R (GhW w) w1 (.lst (x1.map aX) .no)) :
  Calls Tryz.prog 7 #[w0,w1] w fun e w'=>e=.returned (.bool true)/\Below w.heap.size w w':=
 (rV x0 x1 .no o0 o1 S0).calls (RL.two hr0 hr1) hg
theorem oz (os:Os)(args:Array Value):laidMetH Tryz.prog Rows.modelGivenRow.laid ((World.doorLaid Tryz.prog 62 os).forCall (fun _ _=>0) ⟨#[],args,[]⟩).memory:=
 laidMetH_of_parts3 (fuel:=8) (laidMet_of_run' 8 (by kernel_rfl) (by kernel_rfl)) (by kernel_rfl) (by kernel_rfl)
set_option maxRecDepth 100000 in
theorem qY {W:World}(h:laidMetH Tryz.prog Rows.modelGivenRow.laid W):GLB W:=by
 rw[MakeChecks.laidMetH_plain _ _ _ (by kernel_rfl)]at h
 obtain⟨ps,⟨g0,t0,cs0,f0,p0,q0,hg0,ht0,hv0,hd0,⟨g1,t1,cs1,f1,p1,q1,hg1,ht1,hv1,hd1,⟨g2,t2,cs2,f2,p2,q2,hg2,ht2,hv2,hd2,_,_⟩,_⟩,_⟩,_,_⟩:=h
 have e2:Tryz.prog.globalNamed "internal/strconv.uint64pow10"=some 2:=by kernel_rfl
 have e3:(Tryz.prog.globals[2]?).map (·.type)=some 228:=by kernel_rfl
 obtain rfl:=Option.some.inj (e2.symm.trans hg2)
 obtain rfl:=Option.some.inj (e3.symm.trans ht2)
 have hd:Rows.laid_internal_strconv_uint64pow10=Go.Lib.tabData (H:=Unit) .u64 Go.Lib.pow10Tab:=by rfl
 rw[hd]at hd2
 show Go.Lib.TabIs _ _ _ _ _
 unfold Go.Lib.TabIs
 rw[hv2,<- Go.Lib.cells_of_tab Tryz.underlying228 Tryz.underlying167 (by kernel_rfl) (by kernel_rfl) hd2]
set_option maxRecDepth 100000 in
theorem vw (os:Os)(started:os.Started)(H:Type)(enc:TypeId×Value->H) :
  ReturnsInHanded {} Tryz.checked os 7 .any (fun w args=>(Rows.modelGivenSpec.pre enc Tryz.prog Tryz.f7 [] false w args/\laidMetH Tryz.prog Rows.modelGivenRow.laid w)/\sizedMet enc Tryz.prog Tryz.f7 (OpenSpec.ofChange Rows.modelGivenSpec) false w args) (Rows.modelGivenSpec.post enc Tryz.prog Tryz.f7 false true false false):=by
 refine returnsInHanded_of_change_and (C:=Tryz.checked) (X:=fun w _=>laidMetH Tryz.prog Rows.modelGivenRow.laid w) (fun _ _ _ hh h=>h.of_heap hh) own started (by kernel_rfl) Tryz.func7
  (ChangeSpec.witness_shaped (enc:=enc) (C:=Tryz.checked) (os:=os) (X:=fun w _=>laidMetH Tryz.prog Rows.modelGivenRow.laid w) false (World.doorLaid Tryz.prog 62 os) #[.agg #[.slice none 0 0,.slice none 0 0,.slice none 0 0],.slice none 0 0] 8 rfl (World.shaped_of_RefB (by kernel_rfl) (by kernel_rfl)) (by kernel_rfl) (by kernel_rfl) (by kernel_rfl) (oz os _)) ?_
 intro W base args ds gs before hval0 hW hcnd hsz0 hL _
 have hsz:(DataW.weightsEach Tryz.prog (Tryz.f7.params.toList++Rows.modelGivenSpec.plain.varTypes Tryz.prog) (ds++gs)).all (·<=reachBytes)=true:=hsz0
 clear hsz0
 have hval:∀(j:Nat) t v,Tryz.f7.params[j]?=some t->args[j]?=some v->Value.okWide Tryz.prog W .any base t v:=hval0
 have hW':=hW
 obtain⟨p,q,hA0,hV,rfl,hfz,hnd⟩:=hW
 have hA:DataW.TrodAll enc Tryz.prog W 0 (fun _=>true) true Tryz.f7.params.toList args.toList ds p:=hA0
 rw[Tryz.params7]at hA hval hsz
 obtain⟨v0,vs0,d0,ds0,p0,q0,hargs,rfl,rfl,h0,r0⟩:=trodAll_cons hA
 obtain⟨v1,vs1,d1,ds1,p1,q1,rfl,rfl,rfl,h1,r1⟩:=trodAll_cons r0
 obtain⟨rfl,rfl,rfl⟩:=trodAll_nil r1
 obtain rfl:args=#[v0,v1]:=by cases args;simp_all
 obtain⟨rfl,rfl⟩:=trodVars_none hV
 have hv0:=hval 0 26 v0 rfl rfl
 obtain⟨us0,rfl,_⟩:=okWide_struct Tryz.underlying26 hv0
 obtain⟨fuel0,hf0⟩:=id h0
 have hw0:Wt Tryz.prog 26 d0:=fun n hn=>by
  have:=List.all_eq_true.1 hsz n (DataW.weights_mem_each (j:=0) rfl rfl n hn)
  simpa using this
 obtain⟨x0,hc0,ho0⟩:=A4 hf0 hw0
 have hv1:=hval 1 27 v1 rfl rfl
 obtain⟨sa1,sl1,sc1,rfl⟩:=okWide_slice Tryz.underlying27 hv1
 obtain⟨fuel1,hf1⟩:=id h1
 have hw1:Wt Tryz.prog 27 d1:=fun n hn=>by
  have:=List.all_eq_true.1 hsz n (DataW.weights_mem_each (j:=1) rfl rfl n hn)
  simpa using this
 obtain⟨x1,hc1,ho1⟩:=Df hf1 hw1
 clear hA0 hval0
 simp only[List.append_nil]at hW'
 have hlt0:∀z∈p0,z.block<W.heap.size:=fun z hz=>hW'.lt z (by simp[hz])
 have hr0:R (GhW W) (.agg us0) (.agg (pgC x0)):=R.agg us0 _ (by have:=hc0.1;simpa [Value.cells]using this) hc0.2.1 (fun j v y h1 h2=>hc0.2.2 j v y (by simpa [Value.cells]using h1) h2)
 have hlt1:∀z∈p1,z.block<W.heap.size:=fun z hz=>hW'.lt z (by simp[hz])
 have hr1:R (GhW W) (.slice sa1 sl1 sc1) (.lst (x1.map aX) .no):=hc1.2.2 0 _ _ rfl rfl
 refine(walk _ x0 ho0 _ x1 ho1 W (qY hL) hr0 hr1).mono fun e W' ⟨he,hg⟩=>?_
 subst he
 exact⟨_,rfl,_,_,_,[],_,[],hW',(trodAll_cons_mk (shut_bool Tryz.underlying4 _) trodAll_mk0),(trodAll_cons_mk (Below.trod laid (by kernel_rfl) (of_decide_eq_true (by kernel_rfl)) h0 hg hlt0) (trodAll_cons_mk (Below.trod laid (by kernel_rfl) (of_decide_eq_true (by kernel_rfl)) h1 hg hlt1) trodAll_mk0)),rfl,hg.frame _,fun h=>by cases h⟩
theorem I1:Rows.modelGivenRow.holds Tryz.pinned (OpenSpec.ofChange Rows.modelGivenSpec):=
 OpenClaim.holds_of_wide 7 Tryz.f7 rfl rfl rfl rfl rfl rfl rfl ⟨rfl,rfl,rfl,rfl,rfl⟩ rfl rfl rfl rfl rfl (by kernel_rfl) Tryz.func7 (by kernel_rfl)
  (of_decide_eq_true (by kernel_rfl)) (by unfold Func.isWrapper;first|(rw[if_pos (by decide +kernel)];kernel_rfl)|(rw[if_neg (by decide +kernel)];exact⟨rfl,rfl⟩))
  (fun os started H enc _=>vw os started H enc)
theorem proved:Rows.ModelGivenCardSaid:=
 Claim7.holds_tied_plain_at .later [] [.data,.data,.data,.sentinel,.sentinel] true (true,"b8ac3463197d509922f11ec9951944db5387e999601c9c819eab1376e5e65308") true
  I1 (fun _ h=>by cases h) (by kernel_rfl) (fun _ h=>by cases h) modelGiven_row_tie rfl ⟨rfl,rfl⟩ (by kernel_rfl) rfl
  (fun f fn hf hfn=>by
   obtain rfl:f=7:=Option.some.inj ((show Tryz.prog.funcNamed "osier/osierlaw13.ModelGiven"=some 7 by kernel_rfl).symm.trans hf)|>.symm
   obtain rfl:fn=Tryz.f7:=(Option.some.inj (Tryz.func7.symm.trans hfn)).symm
   exact⟨by kernel_rfl,fun j t ht=>by
    rw[Tryz.params7]at ht
    have hm:t∈[26,27]:=by simpa using Array.mem_of_getElem? ht
    have hall:([26,27].all fun u=>!Tryz.prog.wantsStandIn u)=true:=by kernel_rfl
    exact(show Tryz.prog.wantsStandIn t=false by simpa using List.all_eq_true.1 hall t hm)⟩)
  (by kernel_rfl)
end Go.Proofs.YteldpmgepfaiiaaGreatDoor.modelGiven
