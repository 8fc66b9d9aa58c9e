/- Walks of functions that the claim reaches, and plain facts of them. Conditions: those in the statements. -/
import Derived.Test.YtndlnadbnganeaaGreatDoorJnGpj
import Derived.Test.YtndlnadbnganeaaGreatDoorJnFacts
import Derived.OpenShut
import Derived.SizedLaws
import Derived.Handed
import Derived.Shelf.Vars
import Derived.Test.YtndlnadbnganeaaGreatDoorJnValj
import Derived.Test.YtndlnadbnganeaaGreatDoorJnRunj
set_option linter.unusedSimpArgs false
set_option linter.unusedVariables false
set_option maxRecDepth 100000
namespace Go.Proofs.YtndlnadbnganeaaGreatDoor
open Go.RowKit
section
variable {H : Type} {enc : TypeId × Value → H} {P : Program} {w : World}
end
variable {H : Type} {enc : TypeId × Value → H}
theorem handed_shaped {a:Assume}{C:Checked}{os:Os}{f:FuncId}{fn:Func}{s:ChangeSpec}{conds:List PathCond}{apart fresh handsOn again:Bool}{X:World→Array Value→Prop}
  (hX:∀(w w':World) (args:Array Value),w.heap=w'.heap→X w args→X w' args)
  (own:ownKnob C.prog.godebug=none) (started:os.Started) (noInit:C.prog.inits.idxOf? f=none) (hfn:C.prog.funcs[f]?=some fn)
  (witness:∃(w:World) (tape:Tape) (i:Input),w.os=os∧(w.forCall tape i).Shaped C.prog∧i.vars=[]∧Input.okWide C.prog (w.forCall tape i) .any w.heap.size f i ∧
   ((s.pre enc C.prog fn conds apart (w.forCall tape i).memory i.args∧X (w.forCall tape i).memory i.args)∧sizedMet enc C.prog fn (OpenSpec.ofChange s) apart (w.forCall tape i).memory i.args)∧a.holds C.prog (lone (Frame.enter C.prog f i.args .normal) [] (w.forCall tape i)))
  (contract:∀(W:World) (base:Nat) (args:Array Value) (ds gs:List (DataW H)) (before:List MemPlace),W.ShapedOpen C.prog →
   (∀(j:Nat) t v,fn.params[j]?=some t→args[j]?=some v→Value.okWide C.prog W .any base t v) →
   DataW.Whole enc C.prog fn.params.toList s.vars apart W args.toList ds gs before →
   conds.all (PathCond.test C.prog ⟨fn.params.toList,ds,s.plain.varTypes C.prog,gs⟩)=true →
   (DataW.weightsEach C.prog (fn.params.toList++s.plain.varTypes C.prog) (ds++gs)).all (·≤reachBytes)=true→X W args →
   a.holds C.prog (lone (Frame.enter C.prog f args .normal) [] W) →
   Calls C.prog f args W fun e W'=>∃v,e=.returned v∧s.post enc C.prog fn apart fresh handsOn again W args v W') :
  ReturnsInHanded a C os f .any (fun w args=>(s.pre enc C.prog fn conds apart w args∧X w args)∧sizedMet enc C.prog fn (OpenSpec.ofChange s) apart w args) (s.post enc C.prog fn apart fresh handsOn again):=by
 refine returnsInHanded_of_calls own started noInit witness ?_
 intro w tape i _ hsh _ hok hpre hholds
 obtain⟨_,_,_,fn',hfn',_,_,_,_,hval⟩:=hok
 have e:fn'=fn:=Option.some.inj (hfn'.symm.trans hfn)
 subst e
 obtain⟨⟨⟨ds,gs,before,hw,hc⟩,hx⟩,hz⟩:=hpre
 have hw':=DataW.Whole.of_heap (w':=w.forCall tape i) (by rfl) hw
 refine(contract (w.forCall tape i) w.heap.size i.args ds gs before hsh hval hw' hc (hz.weights hw) (hX _ _ _ (by rfl) hx) hholds).mono fun e W' ⟨v,he,hp⟩=>?_
 subst he
 exact ChangeSpec.post_blind hp
theorem glb_shaped {W:World}(h:W.ShapedOpen Tryz.prog):GLB W:=
 cell_of_shapedOpen_int (t:=3) (zero:=#[.int .i64 0]) h (by decide +kernel) (by kernel_rfl) rfl (by kernel_rfl) (by kernel_rfl) Tryz.underlying3
end Go.Proofs.YtndlnadbnganeaaGreatDoor
namespace Go.Proofs.YtndlnadbnganeaaGreatDoor
open Go.RowKit
def shrI (k:IntKind)(q r:Int):Int:=q.fdiv (2 ^ (min r.toNat k.bits))
def hash1 (n k:Int):Int:=bXor .u64 (IntKind.u64.wrap (bXor .u64 n (IntKind.u64.wrap k) * 11400714819323198485)) (shrI .u64 (IntKind.u64.wrap (bXor .u64 n (IntKind.u64.wrap k) * 11400714819323198485)) 29)
def hash3 (a b c:Int):Int:=hash1 (hash1 (hash1 0 a) b) c
def startI (n:Nat)(a b c:Int):Int:=IntKind.i64.wrap (bAnd .u64 (hash3 a b c) (IntKind.u64.wrap (IntKind.i64.wrap ((n:Int) - 1))))
attribute [-go_sem] p_xor p_mul p_shr p_and p_conv1
def keyV (a b c:Int):VV:=.agg [.int .i64 a,.int .i64 b,.int .i64 c]
set_option maxHeartbeats 4000000 in
theorem Hstart_S (s:St)(p g n:Nat)(a b c l u:Int)(h:s p=.obj 184 [.mrw g n,.int .i64 l,.int .i64 u]) :
  SRet Tryz.prog 144 [.ptr p 0,keyV a b c] s (.int .i64 (startI n a b c)) s:=by
 have hpf:s p≠.free:=by rw[h];simp
 obtain⟨fx,hx,ex⟩:∃f:Int→Int→Int,(∀q r,vint .xor .u64 q r=some (.int .u64 (f q r)))∧f=bXor .u64:=⟨_,fun _ _=>rfl,rfl⟩
 obtain⟨fa,ha,ea⟩:∃f:Int→Int→Int,(∀q r,vint .and .u64 q r=some (.int .u64 (f q r)))∧f=bAnd .u64:=⟨_,fun _ _=>rfl,rfl⟩
 obtain⟨fm,hm,em⟩:∃f:Int→Int,(∀q,vint .mul .u64 q 11400714819323198485=some (.int .u64 (f q)))∧f=fun q=>IntKind.u64.wrap (q * 11400714819323198485):=⟨_,fun _=>rfl,rfl⟩
 obtain⟨fs,hs,es⟩:∃f:Int→Int,(∀q,vint .shr .u64 q 29=some (.int .u64 (f q)))∧f=fun q=>shrI .u64 q 29:=⟨_,fun q=>by simp only[p_shr,shrI];rfl,rfl⟩
 obtain⟨fw,hw,ew⟩:∃f:Int→Int,(∀q s,vconv Tryz.prog 3 166 (.int .i64 q) s=some (.int .u64 (f q)))∧f=fun q=>IntKind.u64.wrap q:=⟨_,fun q s=>by simp only[p_conv1,qi3,qi166],rfl⟩
 obtain⟨fi,hi,ei⟩:∃f:Int→Int,(∀q s,vconv Tryz.prog 166 3 (.int .u64 q) s=some (.int .i64 (f q)))∧f=fun q=>IntKind.i64.wrap q:=⟨_,fun q s=>by simp only[p_conv1,qi3,qi166],rfl⟩
 have hE:startI n a b c=fi (fa (fx (fm (fx (fx (fm (fx (fx (fm (fx 0 (fw a))) (fs (fm (fx 0 (fw a))))) (fw b))) (fs (fm (fx (fx (fm (fx 0 (fw a))) (fs (fm (fx 0 (fw a))))) (fw b))))) (fw c))) (fs (fm (fx (fx (fm (fx (fx (fm (fx 0 (fw a))) (fs (fm (fx 0 (fw a))))) (fw b))) (fs (fm (fx (fx (fm (fx 0 (fw a))) (fs (fm (fx 0 (fw a))))) (fw b))))) (fw c))))) (fw (IntKind.i64.wrap ((n:Int) - 1)))):=by
  subst ex ea em es ew ei
  simp only[startI,hash3,hash1]
 rw[hE]
 clear hE ex ea em es ew ei
 unfold keyV
 refine G_enter Tryz.func144 rfl Tryz.ntmps144 rfl fun Q hQ hQe=>?_
 (repeat'(first|refine Ctl ?_|((with_reducible refine Kof.use hK ?_);clear hK hE K E)|((first|(with_reducible refine G_region fun K E hK hE=>?_)|((with_reducible refine W_fresh (fun b hb=>?_));(try(obtain⟨_,_⟩:=nef hb hpf))))<;>(try simp(disch:=assumption) only[go_sem,seval,hx,ha,hm,hs,hw,hi, *]))))
 refine L_rounds 4 (KR_succ 3 ?_)
 (repeat'(first|refine Ctl ?_|((with_reducible refine Kof.use hK ?_);clear hK hE K E)|((with_reducible refine W_cond (fun h=>?_) (fun h=>?_))<;>(try(exfalso;assumption)))|(((with_reducible refine G_region fun K E hK hE=>?_))<;>(try simp(disch:=omega) only[go_sem,seval,hx,ha,hm,hs,hw,hi, *]))))
 refine KR_succ 2 ?_
 (repeat'(first|refine Ctl ?_|((with_reducible refine Kof.use hK ?_);clear hK hE K E)|((with_reducible refine W_cond (fun h=>?_) (fun h=>?_))<;>(try(exfalso;assumption)))|(((with_reducible refine G_region fun K E hK hE=>?_))<;>(try simp(disch:=omega) only[go_sem,seval,hx,ha,hm,hs,hw,hi, *]))))
 refine KR_succ 1 ?_
 (repeat'(first|refine Ctl ?_|((with_reducible refine Kof.use hK ?_);clear hK hE K E)|((with_reducible refine W_cond (fun h=>?_) (fun h=>?_))<;>(try(exfalso;assumption)))|(((with_reducible refine G_region fun K E hK hE=>?_))<;>(try simp(disch:=omega) only[go_sem,seval,hx,ha,hm,hs,hw,hi, *]))))
 refine KR_succ 0 ?_
 (repeat'(first|refine Ctl ?_|((with_reducible refine Kof.use hK ?_);clear hK hE K E)|((with_reducible refine W_cond (fun h=>?_) (fun h=>?_))<;>(try(exfalso;assumption)))|(((with_reducible refine G_region fun K E hK hE=>?_))<;>(try simp(disch:=omega) only[go_sem,seval,hx,ha,hm,hs,hw,hi, *]))))
 all_goals(refine W_ret res144 hQ ?_)
 all_goals(refine⟨_,_,Wk.of_eq ?_,?_,rfl,rfl⟩)
 all_goals first|with_reducible rfl|(exact z_fg)
end Go.Proofs.YtndlnadbnganeaaGreatDoor
namespace Go.Proofs.YtndlnadbnganeaaGreatDoor
open Go.RowKit
def plC:Pl→List VV
 |.em=>[.int .i64 0,.int .i64 0,.int .i64 0,.int .i64 0,.int .i64 0]
 |.fl k v=>[.int .i64 1,.int .i64 k.1,.int .i64 k.2.1,.int .i64 k.2.2,.int .i64 v]
def plsC (ps:List Pl):List VV:=(ps.map plC).flatten
theorem plC_len (p:Pl):(plC p).length=5:=by cases p<;>rfl
theorem plsC_len:∀(ps:List Pl),(plsC ps).length=ps.length * 5
 |[]=>rfl
 |p::ps=>by
  have:=plsC_len ps
  simp only[plsC]at this
  simp only[plsC,List.map_cons,List.flatten_cons,List.length_append,plC_len,this,List.length_cons]
  omega
theorem plsC_at:∀{ps:List Pl} {k:Nat} {p:Pl},ps[k]?=some p→((plsC ps).drop (k * 5)).take 5=plC p
 |[],k,p,h=>by simp at h
 |q::ps,0,p,h=>by
  simp at h
  subst h
  simp only[plsC,List.map_cons,List.flatten_cons,Nat.zero_mul,List.drop_zero]
  rw[List.take_left' (plC_len q)]
 |q::ps,k+1,p,h=>by
  have ih:=plsC_at (ps:=ps) (k:=k) (p:=p) (by simpa using h)
  simp only[plsC]at ih
  simp only[plsC,List.map_cons,List.flatten_cons]
  rw[show (k+1) * 5=(plC q).length+k * 5 by rw[plC_len];omega,List.drop_append,List.drop_eq_nil_of_le (by omega),Nat.add_sub_cancel_left,List.nil_append,ih]
def startP (n:Nat)(key:K3):Nat:=(startI n key.1 key.2.1 key.2.2).toNat
theorem bAnd_lowU (x:Int)(j:Nat)(hj:j≤62):bAnd .u64 x (2 ^ j - 1)=x % 2 ^ j:=by
 have hp:(2:Int) ^ j=((2 ^ j:Nat):Int):=by simp
 have hle:2 ^ j≤2 ^ 62:=Nat.pow_le_pow_right (by omega) hj
 have hpos:0<2 ^ j:=Nat.pow_pos (by omega)
 have h1:=bAnd_low x j hj
 have h3:=Int.emod_lt_of_pos x (show (0:Int)<2 ^ j by omega)
 have h4:=Int.emod_nonneg x (show (2:Int) ^ j≠0 by omega)
 unfold bAnd at h1 ⊢
 have e:(BitVec.ofInt IntKind.u64.bits x &&& BitVec.ofInt IntKind.u64.bits (2 ^ j - 1)).toNat=(BitVec.ofInt IntKind.i64.bits x &&& BitVec.ofInt IntKind.i64.bits (2 ^ j - 1)).toNat:=rfl
 rw[e]
 generalize (BitVec.ofInt IntKind.i64.bits x &&& BitVec.ofInt IntKind.i64.bits (2 ^ j - 1))=y at h1
 have hy:=y.isLt
 generalize y.toNat=z at h1 hy
 have hb:2 ^ IntKind.i64.bits=18446744073709551616:=rfl
 rw[hb]at hy
 simp only[IntKind.wrap,IntKind.bits,IntKind.signed]at h1 ⊢
 simp at h1 ⊢
 generalize x % 2 ^ j=w at *
 generalize (2:Int) ^ j=q at *
 split at h1<;>omega
theorem startI_ok (j:Nat)(hj:j≤40)(a b c:Int):startI (2 ^ j) a b c=((startP (2 ^ j) (a,b,c):Nat):Int)∧startP (2 ^ j) (a,b,c)<2 ^ j:=by
 have hp:(2:Int) ^ j=((2 ^ j:Nat):Int):=by simp
 have hle:2 ^ j≤2 ^ 40:=Nat.pow_le_pow_right (by omega) hj
 have hpos:0<2 ^ j:=Nat.pow_pos (by omega)
 have e1:IntKind.i64.wrap (((2 ^ j:Nat):Int) - 1)=2 ^ j - 1:=by rw[wrap_i64 (by omega) (by omega),hp]
 have e2:IntKind.u64.wrap ((2:Int) ^ j - 1)=2 ^ j - 1:=by
  rw[hp]
  generalize 2 ^ j=q at *
  simp only[IntKind.wrap,IntKind.bits,IntKind.signed]
  simp
  omega
 have h:startI (2 ^ j) a b c=hash3 a b c % 2 ^ j:=by
  unfold startI
  rw[e1,e2,bAnd_lowU _ _ (by omega)]
  have h3:=Int.emod_lt_of_pos (hash3 a b c) (show (0:Int)<2 ^ j by omega)
  have h4:=Int.emod_nonneg (hash3 a b c) (show (2:Int) ^ j≠0 by omega)
  exact wrap_i64 (by omega) (by omega)
 have h3:=Int.emod_lt_of_pos (hash3 a b c) (show (0:Int)<2 ^ j by omega)
 have h4:=Int.emod_nonneg (hash3 a b c) (show (2:Int) ^ j≠0 by omega)
 unfold startP
 simp only[h]
 omega
theorem next_ok (j k:Nat)(hj:j≤40)(hk:k<2 ^ j):bAnd .i64 (IntKind.i64.wrap ((k:Int)+1)) (IntKind.i64.wrap (((2 ^ j:Nat):Int) - 1))=(((k+1) % 2 ^ j:Nat):Int):=by
 have hp:(2:Int) ^ j=((2 ^ j:Nat):Int):=by simp
 have hle:2 ^ j≤2 ^ 40:=Nat.pow_le_pow_right (by omega) hj
 have e1:IntKind.i64.wrap (((2 ^ j:Nat):Int) - 1)=2 ^ j - 1:=by rw[wrap_i64 (by omega) (by omega),hp]
 rw[e1,bAnd_low _ _ (by omega),wrap_i64 (by omega) (by omega),hp,Int.natCast_emod]
 rfl
theorem plsC_in {ps:List Pl}{k:Nat}(h:k<ps.length):k * 5+5≤(plsC ps).length:=by
 rw[plsC_len]
 omega
set_option maxHeartbeats 4000000 in
theorem Hfind_S (s:St)(p g j r:Nat)(ps:List Pl)(ka kb kc l u:Int)(bo:Bool)(hj:ps.length=2 ^ j)(hj2:j≤40)(h:s p=.obj 184 [.mrw g ps.length,.int .i64 l,.int .i64 u])
  (hg:s g=.row 181 5 (plsC ps)) (hf:fndP ps (ka,kb,kc) ps.length (startP ps.length (ka,kb,kc))=some (r,bo)) :
  SRet Tryz.prog 123 [.ptr p 0,keyV ka kb kc] s (.tup [.int .i64 r,.bool bo]) s:=by
 have hpf:s p≠.free:=by rw[h];simp
 have hgf:s g≠.free:=by rw[hg];simp
 have hpg:¬ p=g:=fun e=>by rw[e,hg]at h;cases h
 have hgp:¬ g=p:=fun e=>hpg e.symm
 have w1:=fun(t:St) (ht:t p=.obj 184 [.mrw g ps.length,.int .i64 l,.int .i64 u])=>Hstart_S t p g ps.length ka kb kc l u ht
 have hlen:=plsC_len ps
 obtain⟨hs1,hs2⟩:=startI_ok j hj2 ka kb kc
 rw[← hj]at hs1 hs2
 rw[hs1]at w1
 simp only[keyV]at w1 ⊢
 generalize startP ps.length (ka,kb,kc)=k0 at *
 have hn:∃n,n=ps.length:=⟨_,rfl⟩
 obtain⟨n,hn⟩:=hn
 rw[← hn]at h w1 hf hj hs2
 have hn40:n≤2 ^ 40:=hj ▸ Nat.pow_le_pow_right (by omega) hj2
 have HJ:=Lib.hid hj
 have HN:=Lib.hid hn
 clear hj hn
 refine G_enter Tryz.func123 rfl Tryz.ntmps123 rfl fun Q hQ hQe=>?_
 (repeat'(first|refine Ctl ?_|((with_reducible refine Kof.use hK ?_);clear hK hE K E)|((first|(with_reducible first|refine G_region fun K E hK hE=>?_|refine call_ret can144 (w1 _ z_sl) ?_)|((with_reducible refine W_fresh (fun b hb=>?_));(try(obtain⟨_,_⟩:=nef hb hpf;obtain⟨_,_⟩:=nef hb hgf))))<;>(try simp(disch:=assumption) only[go_sem,seval, *]))))
 refine G_loop (fun m env s'=>∃(k b3:Nat),k<n∧Hid (fndP ps (ka,kb,kc) m k=some (r,bo))∧s'=s.set b3 (.obj 41 [.int .i64 ka,.int .i64 kb,.int .i64 kc])∧¬ b3=p∧¬ b3=g∧s b3=.free∧env 0=.ptr p 0∧env 3=.ptr b3 0∧env 6=.int .i64 (-1)∧env 7=.int .i64 k) n ?_ ?_
 ·exact⟨_,Fg.refl _,k0,_,by assumption,Lib.hid hf,rfl,by assumption,by assumption,by assumption,z_sl,z_sl,z_sl,z_sl⟩
 ·rintro m env s' ⟨k,b3,hk,hf',rfl,h3p,h3g,h3f,e0,e3,e6,e7⟩
  have h3p':¬ p=b3:=fun e=>h3p e.symm
  have h3g':¬ g=b3:=fun e=>h3g e.symm
  have hn:=HN.out
  have hkl:ps[k]?=some (ps[k]'(hn ▸ hk)):=List.getElem?_eq_getElem _
  generalize ps[k]'(hn ▸ hk)=q at hkl
  have hat:=plsC_at hkl
  have hin:=plsC_in (hn ▸ hk)
  have hf2:=hf'.out
  clear hf' hn
  cases m with
  |zero=>simp[fndP]at hf2
  |succ m=>
  simp only[fndP,hkl]at hf2
  have hki:(0:Int)≤k:=Int.natCast_nonneg _
  cases q with
  |em=>
   simp only[plC]at hat
   simp only[Option.some.injEq,Prod.mk.injEq]at hf2
   obtain⟨rfl,rfl⟩:=hf2
   (repeat'(first|refine Ctl ?_|((with_reducible refine Kof.use hK ?_);clear hK hE K E)|((with_reducible refine W_cond (fun h=>?_) (fun h=>?_))<;>(try(exfalso;assumption)))|((first|(with_reducible first|refine G_region fun K E hK hE=>?_|refine W_if ?_)|((with_reducible refine W_fresh (fun b hb=>?_));(repeat(obtain⟨_,hb⟩:=hb));(try(obtain⟨_,_⟩:=nef hb hpf;obtain⟨_,_⟩:=nef hb hgf))))<;>(try simp(disch:=assumption) only[go_sem,seval,hat, *]))))
   all_goals(refine W_ret res123 hQ ?_)
   all_goals(refine⟨_,_,Wk.of_eq ?_,?_,rfl,rfl⟩)
   all_goals first|rfl|(exact z_fg)
  |fl key' v=>
   obtain⟨ka',kb',kc'⟩:=key'
   simp only[plC]at hat
   simp only at hf2
   by_cases he:(ka',kb',kc')=(ka,kb,kc)
   ·rw[if_pos he]at hf2
    simp only[Option.some.injEq,Prod.mk.injEq]at hf2 he
    obtain⟨rfl,rfl⟩:=hf2
    obtain⟨rfl,rfl,rfl⟩:=he
    (repeat'(first|refine Ctl ?_|((with_reducible refine Kof.use hK ?_);clear hK hE K E)|((with_reducible refine W_cond (fun h=>?_) (fun h=>?_))<;>(try(exfalso;assumption)))|((first|(with_reducible first|refine G_region fun K E hK hE=>?_|refine W_if ?_)|((with_reducible refine W_fresh (fun b hb=>?_));(repeat(obtain⟨_,hb⟩:=hb));(try(obtain⟨_,_⟩:=nef hb hpf;obtain⟨_,_⟩:=nef hb hgf))))<;>(try simp(disch:=assumption) only[go_sem,seval,hat, *]))))
    all_goals(refine W_ret res123 hQ ?_)
    all_goals(refine⟨_,_,Wk.of_eq ?_,?_,rfl,rfl⟩)
    all_goals first|rfl|(exact z_fg)
   ·rw[if_neg he,← HN.out]at hf2
    have hd:(decide (ka'=ka) && (decide (kb'=kb) && decide (kc'=kc)))=false:=by
     simp only[Prod.mk.injEq]at he
     simp only[Bool.and_eq_false_iff,decide_eq_false_iff_not]
     by_cases h1:ka'=ka
     ·by_cases h2:kb'=kb
      ·exact .inr (.inr fun h3=>he ⟨h1,h2,h3⟩)
      ·exact .inr (.inl h2)
     ·exact .inl h1
    have hx:=next_ok j k hj2 (HJ.out ▸ hk)
    rw[← HJ.out,wrap_i64 (n:=(k:Int)+1) (by omega) (by omega),wrap_i64 (n:=(n:Int) - 1) (by omega) (by omega)]at hx
    have hnx:(k+1) % n<n:=Nat.mod_lt _ (by omega)
    have hx2:=hx
    rw[show (k:Int)+1=((k+1:Nat):Int) from rfl]at hx2
    have HF:=Lib.hid hf2
    clear hf2 he
    generalize (k+1) % n=k' at *
    (repeat'(first|refine Ctl ?_|((with_reducible refine Kof.use hK ?_);clear hK hE K E)|((with_reducible refine W_cond (fun h=>?_) (fun h=>?_))<;>(try(exfalso;assumption)))|((first|(with_reducible first|refine G_region fun K E hK hE=>?_|refine W_if ?_)|((with_reducible refine W_fresh (fun b hb=>?_));(repeat(obtain⟨_,hb⟩:=hb));(try(obtain⟨_,_⟩:=nef hb hpf;obtain⟨_,_⟩:=nef hb hgf))))<;>(try simp(disch:=omega) only[go_sem,seval,hat,hd,hx,hx2, *]))))
    all_goals exact⟨_,Fg.of_set _ (by rw[St.set_other _ _ (by assumption)];assumption),m,by omega,k',b3,hnx,HF,rfl,h3p,h3g,h3f,z_sl,z_sl,z_sl,z_sl⟩
end Go.Proofs.YtndlnadbnganeaaGreatDoor
