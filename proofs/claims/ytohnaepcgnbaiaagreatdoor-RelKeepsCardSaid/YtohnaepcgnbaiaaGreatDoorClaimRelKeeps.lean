/- What is kept, picked, and alike. Conditions: the row's own alone. -/
import Derived.Test.YtohnaepcgnbaiaaGreatDoorCards
import Derived.Test.YtohnaepcgnbaiaaGreatDoorTie
import Derived.Test.YtohnaepcgnbaiaaGreatDoorJlFu
import Derived.Test.YtohnaepcgnbaiaaGreatDoorJlArT
import Derived.ProofKit
import Derived.ShutString
import Derived.Carry
import Derived.LaidMore
import Derived.Lay
import Derived.SevenTiedAt
import Derived.Lib.LaidTab
set_option linter.unusedSimpArgs false
set_option linter.unusedVariables false
namespace Go.Proofs.YtohnaepcgnbaiaaGreatDoor.relKeeps
open Go.ChangeShapes Go.WideShapes Go.ChangeAt Go.RowKit
open Go.ChangeMaps (open_string shut_string)
theorem own:ownKnob Tryz.prog.godebug=none:=by kernel_rfl
theorem laid:laidOutB Tryz.prog=true:=by kernel_rfl
theorem walk (n0:Int)(z0:(Lit.int .i64 n0).wf=true)(w1:Value)(x1:List Tri)(o1:GG x1)(n2:Int)(z2:(Lit.int .i64 n2).wf=true)(w:World)(hg:GLB w)(hr1:R (GhW w) w1 (.lst (k9 x1) .no)) :
  Calls Tryz.prog 6 #[.int .i64 n0,w1,.int .i64 n2] w fun e w'=>e=.returned (.bool true)/\Below w.heap.size w w':=
 (yC S0 n0 x1 n2 o1).calls (RL.three (R.int .i64 n0) hr1 (R.int .i64 n2)) hg
set_option maxRecDepth 100000 in
theorem Lz (os:Os)(started:os.Started)(H:Type)(enc:TypeId×Value->H) :
  ReturnsInHanded {} Tryz.checked os 6 .any (fun w args=>(Rows.relKeepsSpec.pre enc Tryz.prog Tryz.f6 [] false w args/\laidMetH Tryz.prog Rows.relKeepsRow.laid w)/\sizedMet enc Tryz.prog Tryz.f6 (OpenSpec.ofChange Rows.relKeepsSpec) false w args) (Rows.relKeepsSpec.post enc Tryz.prog Tryz.f6 false true false false):=by
 refine pF (C:=Tryz.checked) (X:=fun w _=>laidMetH Tryz.prog Rows.relKeepsRow.laid w) (fun _ _ _ hh h=>h.of_heap hh) own started (by kernel_rfl) Tryz.func6
  (ChangeSpec.witness_shaped (enc:=enc) (C:=Tryz.checked) (os:=os) (X:=fun w _=>laidMetH Tryz.prog Rows.relKeepsRow.laid w) false (World.laidAll Tryz.prog os Rows.relKeepsRow.laid) #[.int .i64 0,.slice none 0 0,.int .i64 0] 8 (World.laidAll_os _ _ _) (World.shaped_of_ZipB (by kernel_rfl) (by kernel_rfl)) (by kernel_rfl) (by kernel_rfl) (by kernel_rfl)
   (by rw[MakeChecks.laidMetH_plain _ _ _ (by kernel_rfl)];exact laidMet_laidAll _ (by kernel_rfl) (by kernel_rfl))) ?_
 intro W base args ds gs before hshp hval0 hW hcnd hsz0 hL _
 have hsz:(DataW.weightsEach Tryz.prog (Tryz.f6.params.toList++Rows.relKeepsSpec.plain.varTypes Tryz.prog) (ds++gs)).all (·<=reachBytes)=true:=hsz0
 clear hsz0
 have hval:∀(j:Nat) t v,Tryz.f6.params[j]?=some t->args[j]?=some v->Value.okWide Tryz.prog W .any base t v:=hval0
 have hW':=hW
 obtain⟨p,q,hA0,hV,rfl,hfz,hnd⟩:=hW
 have hA:DataW.TrodAll enc Tryz.prog W 0 (fun _=>true) true Tryz.f6.params.toList args.toList ds p:=hA0
 rw[Tryz.params6]at hA hval hsz
 obtain⟨v0,vs0,d0,ds0,p0,q0,hargs,rfl,rfl,h0,r0⟩:=trodAll_cons hA
 obtain⟨v1,vs1,d1,ds1,p1,q1,rfl,rfl,rfl,h1,r1⟩:=trodAll_cons r0
 obtain⟨v2,vs2,d2,ds2,p2,q2,rfl,rfl,rfl,h2,r2⟩:=trodAll_cons r1
 obtain⟨rfl,rfl,rfl⟩:=trodAll_nil r2
 obtain rfl:args=#[v0,v1,v2]:=by cases args;simp_all
 obtain⟨rfl,rfl⟩:=trodVars_none hV
 obtain⟨n0,rfl,rfl,rfl,w0⟩:=open_int Tryz.underlying3 (hval 0 3 v0 rfl rfl) h0
 have hv1:=hval 1 46 v1 rfl rfl
 obtain⟨sa1,sl1,sc1,rfl⟩:=okWide_slice Tryz.underlying46 hv1
 obtain⟨fuel1,hf1⟩:=id h1
 have hw1:Wt Tryz.prog 46 d1:=fun n hn=>by
  have:=List.all_eq_true.1 hsz n (DataW.weights_mem_each (j:=1) rfl rfl n hn)
  simpa using this
 obtain⟨x1,hc1,ho1⟩:=Q7 hf1 hw1
 obtain⟨n2,rfl,rfl,rfl,w2⟩:=open_int Tryz.underlying3 (hval 2 3 v2 rfl rfl) h2
 clear hA0 hval0
 simp only[List.append_nil]at hW'
 have hlt1:∀z∈p1,z.block<W.heap.size:=fun z hz=>hW'.lt z (by simp[hz])
 have hr1:R (GhW W) (.slice sa1 sl1 sc1) (.lst (k9 x1) .no):=hc1.2.2 0 _ _ rfl rfl
 refine(walk n0 w0 _ x1 ho1 n2 w2 W (yB hshp) hr1).mono fun e W' ⟨he,hg⟩=>?_
 subst he
 exact⟨_,rfl,_,_,_,[],_,[],hW',(trodAll_cons_mk (shut_bool Tryz.underlying4 _) trodAll_mk0),(trodAll_cons_mk (shut_int Tryz.underlying3 w0) (trodAll_cons_mk (Below.trod laid (by kernel_rfl) (of_decide_eq_true (by kernel_rfl)) h1 hg hlt1) (trodAll_cons_mk (shut_int Tryz.underlying3 w2) trodAll_mk0))),rfl,hg.frame _,fun h=>by cases h⟩
theorem over:Rows.relKeepsRow.holds Tryz.pinned (OpenSpec.ofChange Rows.relKeepsSpec):=
 OpenClaim.holds_of_wide 6 Tryz.f6 rfl rfl rfl rfl rfl rfl rfl ⟨rfl,rfl,rfl,rfl,rfl⟩ rfl rfl rfl rfl rfl (by kernel_rfl) Tryz.func6 (by kernel_rfl)
  (of_decide_eq_true (by kernel_rfl)) (by unfold Func.isWrapper;first|(rw[if_pos (by decide +kernel)];kernel_rfl)|(rw[if_neg (by decide +kernel)];exact⟨rfl,rfl⟩))
  (fun os started H enc _=>Lz os started H enc)
theorem proved:Rows.RelKeepsCardSaid:=
 Claim7.holds_tied_plain_at .later [] [.data,.pinned] true (true,"a6bbcfc0d34980aab443581d29125c1265ff955a17b9955e085dbb2c798526f5") false
  over (fun _ h=>by cases h) (by kernel_rfl) (fun _ h=>by cases h) relKeeps_row_tie rfl ⟨rfl,rfl⟩ (by kernel_rfl) rfl
  (fun f fn hf hfn=>by
   obtain rfl:f=6:=Option.some.inj ((show Tryz.prog.funcNamed "osier/osierlaw09.RelKeeps"=some 6 by kernel_rfl).symm.trans hf)|>.symm
   obtain rfl:fn=Tryz.f6:=(Option.some.inj (Tryz.func6.symm.trans hfn)).symm
   exact⟨by kernel_rfl,fun j t ht=>by
    rw[Tryz.params6]at ht
    have hm:t∈[3,46,3]:=by simpa using Array.mem_of_getElem? ht
    have hall:([3,46,3].all fun u=>!Tryz.prog.wantsStandIn u)=true:=by kernel_rfl
    exact(show Tryz.prog.wantsStandIn t=false by simpa using List.all_eq_true.1 hall t hm)⟩)
  (by kernel_rfl)
end Go.Proofs.YtohnaepcgnbaiaaGreatDoor.relKeeps
