/- Which codes there are; what nobody made answers nothing. Conditions: the row's own alone. -/
import Derived.Test.YtndlnadbnganeaaGreatDoorRows
import Derived.Test.YtndlnadbnganeaaGreatDoorCards
import Derived.Test.YtndlnadbnganeaaGreatDoorTie
import Derived.Test.YtndlnadbnganeaaGreatDoorJnArD
import Derived.Test.YtndlnadbnganeaaGreatDoorJnArrj
import Derived.Test.YtndlnadbnganeaaGreatDoorJnGpj
import Derived.WalkKit
import Derived.ProofKit
import Derived.OpenShut
import Derived.ShutString
import Derived.Carry
import Derived.SizedLaws
import Derived.LaidMore
import Derived.Lay
import Derived.SevenTiedAt
import Derived.Lib.LaidTab
set_option linter.unusedSimpArgs false
set_option linter.unusedVariables false
namespace Go.Proofs.YtndlnadbnganeaaGreatDoor.codeNobody
open Go.ChangeShapes Go.WideShapes Go.ChangeAt Go.RowKit
open Go.ChangeMaps (open_string shut_string)
theorem own:ownKnob Tryz.prog.godebug=none:=by kernel_rfl
theorem laid:laidOutB Tryz.prog=true:=by kernel_rfl
theorem walk (w0:Value)(x0:List Dm)(o0:DomsFit x0)(a1:ByteArray)(z1:a1.data.toList.length≤reachBytes)(n2:Int)(z2:(Lit.int .i64 n2).wf=true)(w:World)(hg:GLB w)(hr0:R (GhW w) w0 (.lst (domsI x0) .no)) :
  Calls Tryz.prog 9 #[w0,.string a1,.int .i64 n2] w fun e w'=>e=.returned (.bool true)∧Below w.heap.size w w':=
 (CodeNobody_S S0 x0 a1.data.toList n2 o0 (Nat.le_trans z1 (by decide))).calls (RL.three hr0 (R.str a1.data) (R.int .i64 n2)) hg
set_option maxRecDepth 100000 in
theorem lifted (os:Os)(started:os.Started)(H:Type)(enc:TypeId×Value→H) :
  ReturnsInHanded {} Tryz.checked os 9 .any (fun w args=>(Rows.codeNobodySpec.pre enc Tryz.prog Tryz.f9 [] false w args∧laidMetH Tryz.prog Rows.codeNobodyRow.laid w)∧sizedMet enc Tryz.prog Tryz.f9 (OpenSpec.ofChange Rows.codeNobodySpec) false w args) (Rows.codeNobodySpec.post enc Tryz.prog Tryz.f9 false true false false):=by
 refine handed_shaped (C:=Tryz.checked) (X:=fun w _=>laidMetH Tryz.prog Rows.codeNobodyRow.laid w) (fun _ _ _ hh h=>h.of_heap hh) own started (by kernel_rfl) Tryz.func9
  (ChangeSpec.witness_shaped (enc:=enc) (C:=Tryz.checked) (os:=os) (X:=fun w _=>laidMetH Tryz.prog Rows.codeNobodyRow.laid w) false (World.laidAll Tryz.prog os Rows.codeNobodyRow.laid) #[.slice none 0 0,.string ByteArray.empty,.int .i64 0] 8 (World.laidAll_os _ _ _) (World.shaped_of_ZipB (by kernel_rfl) (by kernel_rfl)) (by kernel_rfl) (by kernel_rfl) (by kernel_rfl)
   (by rw[MakeChecks.laidMetH_plain _ _ _ (by kernel_rfl)];exact laidMet_laidAll _ (by kernel_rfl) (by kernel_rfl))) ?_
 intro W base args ds gs before hshp hval0 hW hcnd hsz0 hL _
 have hsz:(DataW.weightsEach Tryz.prog (Tryz.f9.params.toList++Rows.codeNobodySpec.plain.varTypes Tryz.prog) (ds++gs)).all (·≤reachBytes)=true:=hsz0
 clear hsz0
 have hval:∀(j:Nat) t v,Tryz.f9.params[j]?=some t→args[j]?=some v→Value.okWide Tryz.prog W .any base t v:=hval0
 have hW':=hW
 obtain⟨p,q,hA0,hV,rfl,hfz,hnd⟩:=hW
 have hA:DataW.TrodAll enc Tryz.prog W 0 (fun _=>true) true Tryz.f9.params.toList args.toList ds p:=hA0
 rw[Tryz.params9]at hA hval hsz
 obtain⟨v0,vs0,d0,ds0,p0,q0,hargs,rfl,rfl,h0,r0⟩:=trodAll_cons hA
 obtain⟨v1,vs1,d1,ds1,p1,q1,rfl,rfl,rfl,h1,r1⟩:=trodAll_cons r0
 obtain⟨v2,vs2,d2,ds2,p2,q2,rfl,rfl,rfl,h2,r2⟩:=trodAll_cons r1
 obtain⟨rfl,rfl,rfl⟩:=trodAll_nil r2
 obtain rfl:args=#[v0,v1,v2]:=by cases args;simp_all
 obtain⟨rfl,rfl⟩:=trodVars_none hV
 have hv0:=hval 0 24 v0 rfl rfl
 obtain⟨sa0,sl0,sc0,rfl⟩:=okWide_slice Tryz.underlying24 hv0
 obtain⟨fuel0,hf0⟩:=id h0
 have hw0:Wt Tryz.prog 24 d0:=fun n hn=>by
  have:=List.all_eq_true.1 hsz n (DataW.weights_mem_each (j:=0) rfl rfl n hn)
  simpa using this
 obtain⟨x0,hc0,ho0⟩:=rd_doms hf0 hw0
 obtain⟨a1,rfl,rfl,rfl,w1⟩:=open_string Tryz.underlying9 (hval 1 9 v1 rfl rfl) h1
 obtain⟨n2,rfl,rfl,rfl,w2⟩:=open_int Tryz.underlying3 (hval 2 3 v2 rfl rfl) h2
 clear hA0 hval0
 simp only[List.append_nil]at hW'
 have hlt0:∀z∈p0,z.block<W.heap.size:=fun z hz=>hW'.lt z (by simp[hz])
 have hr0:R (GhW W) (.slice sa0 sl0 sc0) (.lst (domsI x0) .no):=hc0.2.2 0 _ _ rfl rfl
 have hz1:=sized_string hsz (j:=1) (t:=9) rfl rfl
 refine(walk _ x0 ho0 a1 hz1 n2 w2 W (glb_shaped hshp) hr0).mono fun e W' ⟨he,hg⟩=>?_
 subst he
 exact⟨_,rfl,_,_,_,[],_,[],hW',(trodAll_cons_mk (shut_bool Tryz.underlying4 _) trodAll_mk0),(trodAll_cons_mk (Below.trod laid (by kernel_rfl) (of_decide_eq_true (by kernel_rfl)) h0 hg hlt0) (trodAll_cons_mk (shut_string Tryz.underlying9 w1) (trodAll_cons_mk (shut_int Tryz.underlying3 w2) trodAll_mk0))),rfl,hg.frame _,fun h=>by cases h⟩
theorem over:Rows.codeNobodyRow.holds Tryz.pinned (OpenSpec.ofChange Rows.codeNobodySpec):=
 OpenClaim.holds_of_wide 9 Tryz.f9 rfl rfl rfl rfl rfl rfl rfl ⟨rfl,rfl,rfl,rfl,rfl⟩ rfl rfl rfl rfl rfl (by kernel_rfl) Tryz.func9 (by kernel_rfl)
  (of_decide_eq_true (by kernel_rfl)) (by unfold Func.isWrapper;first|(rw[if_pos (by decide +kernel)];kernel_rfl)|(rw[if_neg (by decide +kernel)];exact⟨rfl,rfl⟩))
  (fun os started H enc _=>lifted os started H enc)
theorem proved:Rows.CodeNobodyCardSaid:=
 Claim7.holds_tied_plain_at .later [] [.data,.pinned] true (true,"0e0d5cd8abebae8cdc0ced51562bed4ef1b46d623177703d48300600ddeb6f0b") false
  over (fun _ h=>by cases h) (by kernel_rfl) (fun _ h=>by cases h) codeNobody_row_tie rfl ⟨rfl,rfl⟩ (by kernel_rfl) rfl
  (fun f fn hf hfn=>by
   obtain rfl:f=9:=Option.some.inj ((show Tryz.prog.funcNamed "osier/osierlaw08.CodeNobody"=some 9 by kernel_rfl).symm.trans hf)|>.symm
   obtain rfl:fn=Tryz.f9:=(Option.some.inj (Tryz.func9.symm.trans hfn)).symm
   exact⟨by kernel_rfl,fun j t ht=>by
    rw[Tryz.params9]at ht
    have hm:t∈[24,9,3]:=by simpa using Array.mem_of_getElem? ht
    have hall:([24,9,3].all fun u=>!Tryz.prog.wantsStandIn u)=true:=by kernel_rfl
    exact(show Tryz.prog.wantsStandIn t=false by simpa using List.all_eq_true.1 hall t hm)⟩)
  (by kernel_rfl)
end Go.Proofs.YtndlnadbnganeaaGreatDoor.codeNobody
