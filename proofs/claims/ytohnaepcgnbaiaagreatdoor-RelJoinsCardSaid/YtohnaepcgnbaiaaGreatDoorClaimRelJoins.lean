/- A join is the same the other way round. Conditions: the row's own alone. -/
import Derived.Test.YtohnaepcgnbaiaaGreatDoorRows
import Derived.Test.YtohnaepcgnbaiaaGreatDoorCards
import Derived.Test.YtohnaepcgnbaiaaGreatDoorTie
import Derived.Test.YtohnaepcgnbaiaaGreatDoorJkFo
import Derived.Test.YtohnaepcgnbaiaaGreatDoorJkArP
import Derived.Test.YtohnaepcgnbaiaaGreatDoorJkPkj
import Derived.Test.YtohnaepcgnbaiaaGreatDoorJkGpj
import Derived.WalkKit
import Derived.ProofKit
import Derived.OpenShut
import Derived.ShutString
import Derived.Carry
import Derived.SizedLaws
import Derived.LaidMore
import Derived.Lay
import Derived.SevenTiedAt
import Derived.Lib.LaidTab
set_option linter.unusedSimpArgs false
set_option linter.unusedVariables false
namespace Go.Proofs.YtohnaepcgnbaiaaGreatDoor.relJoins
open Go.ChangeShapes Go.WideShapes Go.ChangeAt Go.RowKit
open Go.ChangeMaps (open_string shut_string)
theorem own:ownKnob Tryz.prog.godebug=none:=by kernel_rfl
theorem laid:laidOutB Tryz.prog=true:=by kernel_rfl
theorem walk (n0:Int)(z0:(Lit.int .i64 n0).wf=true)(w1:Value)(x1:List Par)(o1:rM x1)(w2:Value)(x2:List Par)(o2:rM x2)(w:World)(hg:GLB w)(hr1:R (GhW w) w1 (.lst (cu x1) .no))(hr2:R (GhW w) w2 (.lst (cu x2) .no)) :
  Calls Tryz.prog 4 #[.int .i64 n0,w1,w2] w fun e w'=>e=.returned (.bool true)/\Below w.heap.size w w':=
 (Mz S0 n0 x1 x2 o1 o2).calls (RL.three (R.int .i64 n0) hr1 hr2) hg
set_option maxRecDepth 100000 in
theorem Lz (os:Os)(started:os.Started)(H:Type)(enc:TypeId×Value->H) :
  ReturnsInHanded {} Tryz.checked os 4 .any (fun w args=>(Rows.relJoinsSpec.pre enc Tryz.prog Tryz.f4 [] false w args/\laidMetH Tryz.prog Rows.relJoinsRow.laid w)/\sizedMet enc Tryz.prog Tryz.f4 (OpenSpec.ofChange Rows.relJoinsSpec) false w args) (Rows.relJoinsSpec.post enc Tryz.prog Tryz.f4 false true false false):=by
 refine pF (C:=Tryz.checked) (X:=fun w _=>laidMetH Tryz.prog Rows.relJoinsRow.laid w) (fun _ _ _ hh h=>h.of_heap hh) own started (by kernel_rfl) Tryz.func4
  (ChangeSpec.witness_shaped (enc:=enc) (C:=Tryz.checked) (os:=os) (X:=fun w _=>laidMetH Tryz.prog Rows.relJoinsRow.laid w) false (World.laidAll Tryz.prog os Rows.relJoinsRow.laid) #[.int .i64 0,.slice none 0 0,.slice none 0 0] 8 (World.laidAll_os _ _ _) (World.shaped_of_ZipB (by kernel_rfl) (by kernel_rfl)) (by kernel_rfl) (by kernel_rfl) (by kernel_rfl)
   (by rw[MakeChecks.laidMetH_plain _ _ _ (by kernel_rfl)];exact laidMet_laidAll _ (by kernel_rfl) (by kernel_rfl))) ?_
 intro W base args ds gs before hshp hval0 hW hcnd hsz0 hL _
 have hsz:(DataW.weightsEach Tryz.prog (Tryz.f4.params.toList++Rows.relJoinsSpec.plain.varTypes Tryz.prog) (ds++gs)).all (·<=reachBytes)=true:=hsz0
 clear hsz0
 have hval:∀(j:Nat) t v,Tryz.f4.params[j]?=some t->args[j]?=some v->Value.okWide Tryz.prog W .any base t v:=hval0
 have hW':=hW
 obtain⟨p,q,hA0,hV,rfl,hfz,hnd⟩:=hW
 have hA:DataW.TrodAll enc Tryz.prog W 0 (fun _=>true) true Tryz.f4.params.toList args.toList ds p:=hA0
 rw[Tryz.params4]at hA hval hsz
 obtain⟨v0,vs0,d0,ds0,p0,q0,hargs,rfl,rfl,h0,r0⟩:=trodAll_cons hA
 obtain⟨v1,vs1,d1,ds1,p1,q1,rfl,rfl,rfl,h1,r1⟩:=trodAll_cons r0
 obtain⟨v2,vs2,d2,ds2,p2,q2,rfl,rfl,rfl,h2,r2⟩:=trodAll_cons r1
 obtain⟨rfl,rfl,rfl⟩:=trodAll_nil r2
 obtain rfl:args=#[v0,v1,v2]:=by cases args;simp_all
 obtain⟨rfl,rfl⟩:=trodVars_none hV
 obtain⟨n0,rfl,rfl,rfl,w0⟩:=open_int Tryz.underlying3 (hval 0 3 v0 rfl rfl) h0
 have hv1:=hval 1 22 v1 rfl rfl
 obtain⟨sa1,sl1,sc1,rfl⟩:=okWide_slice Tryz.underlying22 hv1
 obtain⟨fuel1,hf1⟩:=id h1
 have hw1:Wt Tryz.prog 22 d1:=fun n hn=>by
  have:=List.all_eq_true.1 hsz n (DataW.weights_mem_each (j:=1) rfl rfl n hn)
  simpa using this
 obtain⟨x1,hc1,ho1⟩:=wY hf1 hw1
 have hv2:=hval 2 22 v2 rfl rfl
 obtain⟨sa2,sl2,sc2,rfl⟩:=okWide_slice Tryz.underlying22 hv2
 obtain⟨fuel2,hf2⟩:=id h2
 have hw2:Wt Tryz.prog 22 d2:=fun n hn=>by
  have:=List.all_eq_true.1 hsz n (DataW.weights_mem_each (j:=2) rfl rfl n hn)
  simpa using this
 obtain⟨x2,hc2,ho2⟩:=wY hf2 hw2
 clear hA0 hval0
 simp only[List.append_nil]at hW'
 have hlt1:∀z∈p1,z.block<W.heap.size:=fun z hz=>hW'.lt z (by simp[hz])
 have hr1:R (GhW W) (.slice sa1 sl1 sc1) (.lst (cu x1) .no):=hc1.2.2 0 _ _ rfl rfl
 have hlt2:∀z∈p2,z.block<W.heap.size:=fun z hz=>hW'.lt z (by simp[hz])
 have hr2:R (GhW W) (.slice sa2 sl2 sc2) (.lst (cu x2) .no):=hc2.2.2 0 _ _ rfl rfl
 refine(walk n0 w0 _ x1 ho1 _ x2 ho2 W (vv hshp) hr1 hr2).mono fun e W' ⟨he,hg⟩=>?_
 subst he
 exact⟨_,rfl,_,_,_,[],_,[],hW',(trodAll_cons_mk (shut_bool Tryz.underlying4 _) trodAll_mk0),(trodAll_cons_mk (shut_int Tryz.underlying3 w0) (trodAll_cons_mk (Below.trod laid (by kernel_rfl) (of_decide_eq_true (by kernel_rfl)) h1 hg hlt1) (trodAll_cons_mk (Below.trod laid (by kernel_rfl) (of_decide_eq_true (by kernel_rfl)) h2 hg hlt2) trodAll_mk0))),rfl,hg.frame _,fun h=>by cases h⟩
theorem over:Rows.relJoinsRow.holds Tryz.pinned (OpenSpec.ofChange Rows.relJoinsSpec):=
 OpenClaim.holds_of_wide 4 Tryz.f4 rfl rfl rfl rfl rfl rfl rfl ⟨rfl,rfl,rfl,rfl,rfl⟩ rfl rfl rfl rfl rfl (by kernel_rfl) Tryz.func4 (by kernel_rfl)
  (of_decide_eq_true (by kernel_rfl)) (by unfold Func.isWrapper;(rw[if_neg (by decide +kernel)];exact⟨rfl,rfl⟩))
  (fun os started H enc _=>Lz os started H enc)
theorem proved:Rows.RelJoinsCardSaid:=
 Claim7.holds_tied_plain_at .later [] [.data,.pinned] true (true,"a6bbcfc0d34980aab443581d29125c1265ff955a17b9955e085dbb2c798526f5") false
  over (fun _ h=>by cases h) (by kernel_rfl) (fun _ h=>by cases h) relJoins_row_tie rfl ⟨rfl,rfl⟩ (by kernel_rfl) rfl
  (fun f fn hf hfn=>by
   obtain rfl:f=4:=Option.some.inj ((show Tryz.prog.funcNamed "osier/osierlaw09.RelJoins"=some 4 by kernel_rfl).symm.trans hf)|>.symm
   obtain rfl:fn=Tryz.f4:=(Option.some.inj (Tryz.func4.symm.trans hfn)).symm
   exact⟨by kernel_rfl,fun j t ht=>by
    rw[Tryz.params4]at ht
    have hm:t∈[3,22,22]:=by simpa using Array.mem_of_getElem? ht
    have hall:([3,22,22].all fun u=>!Tryz.prog.wantsStandIn u)=true:=by kernel_rfl
    exact(show Tryz.prog.wantsStandIn t=false by simpa using List.all_eq_true.1 hall t hm)⟩)
  (by kernel_rfl)
end Go.Proofs.YtohnaepcgnbaiaaGreatDoor.relJoins
