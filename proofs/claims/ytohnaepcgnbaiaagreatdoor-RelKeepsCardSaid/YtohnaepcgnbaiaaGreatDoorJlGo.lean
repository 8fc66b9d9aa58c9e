/- Walks. Conditions: in the statements. -/
import Derived.Test.YtohnaepcgnbaiaaGreatDoorJlRunj
set_option linter.unusedSimpArgs false
set_option linter.unusedVariables false
namespace Go.Proofs.YtohnaepcgnbaiaaGreatDoor
open Go.RowKit
def Kof {R:Env->St->Prop}(K:Env->St->Prop):Prop:=∀env s,R env s->K env s
def Eof {R:VV->Env->St->Prop}(E:VV->Env->St->Prop):Prop:=∀x env s,R x env s->E x env s
def Qof {R:Pst}(Q:Pst):Prop:=∀f env s,R f env s->Q f env s
theorem k_ {R:Env->St->Prop}{K:Env->St->Prop}(h:@Kof R K){env:Env}{s:St}(hr:R env s):K env s:=h _ _ hr
theorem Eof.use {R:VV->Env->St->Prop}{E:VV->Env->St->Prop}(h:@Eof R E){x:VV}{env:Env}{s:St}(hr:R x env s):E x env s:=h _ _ _ hr
def dOk (keep:TW):Option Tmp->Bool
 |some t=>!keep.contains t
 |none=>true
def EOk (N:Nat)(keep:TW)(E:VV->Env->St->Prop):Prop:=∀x env s d y,dOk keep d=true->E x (put N env d y) s->E x env s
section
variable {P : Program} {N : Nat} {D : List Deferred} {k : List Itm} {Q : Pst} {env : Env} {s : St}
theorem am {f:FuncId}{fn:Func}{c:Code}{xs:Tb}{s:St}{Q0:SEnd->St->Prop}(hf:P.funcs[f]?=some fn)(hb:fn.body=some c)(hN:fn.ntmps=N)(hl:Nat.ble xs.length N=true)
  (h:∀Q:Pst,@Qof (Qf P fn.results.toList Q0) Q->EOk N [] (fun x=>Q (.panic x))->Kp P N [] [.code c] Q .norm (ry xs) s):SCalls P f xs s Q0:=
 Fj hf hb hN hl (h _ (fun _ _ _ h=>h) (fun _ _ _ _ _ _ h=>h))
theorem ab {id:Nat}{ops:List Oper}(h:∀(K:Env->St->Prop) (E:VV->Env->St->Prop),@Kof (Kp P N D k Q .norm) K->@Eof (fun x=>Q (.panic x)) E->aw P N ops K E ops env s) :
  Kp P N D (.code (.region id ops.toArray false)::k) Q .norm env s:=Cf h
theorem M7 {c:Operand}{x y:Code}{b:Bool}(hb:rd env c=.bool b)(h1:b=true->Kp P N D (.code x::k) Q .norm env s)(h2:b=false->Kp P N D (.code y::k) Q .norm env s) :
  Kp P N D (.code (.cond c x y)::k) Q .norm env s:=by
 refine MT ?_
 rw[hb]
 cases b with
 |true=>rw[ue];exact h1 rfl
 |false=>rw[rY];exact h2 rfl
theorem QE {rs:List ResultVar}{Q0:SEnd->St->Prop}{Q:Pst}{v:VV}(hQ:@Qof (Qf P rs Q0) Q)(hv:kP P env s rs=some v)(h:∃y s',Wk v y/\Fg s s'/\Q0 (.ret y) s'):Q .ret env s:=
 hQ _ _ _ ⟨v,hv,h⟩
theorem M5 {rs:List ResultVar}{Q0:SEnd->St->Prop}{Q:Pst}{v:VV}(hQ:@Qof (Qf P rs Q0) Q)(hv:kP P env s rs=some v)(h:∃y s',Wk v y/\Fg s s'/\Q0 (.ret y) s'):Kp P N D [] Q .norm env s:=
 hQ _ _ _ ⟨v,hv,h⟩
theorem tX {rs:List ResultVar}{Q0:SEnd->St->Prop}{Q:Pst}{x:VV}(hQ:@Qof (Qf P rs Q0) Q)(h:∃s',Fg s s'/\Q0 (.panic x) s'):Q (.panic x) env s:=
 hQ _ _ _ h
theorem Wk.of_eq {x y:VV}(h:x=y):Wk x y:=h ▸ Wk.refl x
variable {all rest : List Oper} {K : Env -> St -> Prop} {E : VV -> Env -> St -> Prop}
theorem G_gd {b want:Bool}{d:Option Tmp}{op:Op}{ty:TypeId}{p:String}{af:Array Edge}
  (h1:b=true->vgd P N all K E (.bool true) want d op ty p af rest env s) (h2:b=false->vgd P N all K E (.bool false) want d op ty p af rest env s) :
  vgd P N all K E (.bool b) want d op ty p af rest env s:=by cases b with|true=>exact h1 rfl|false=>exact h2 rfl
theorem G_if {d:Option Tmp}{c:Prop}[Decidable c]{x:Option VV}(h:c)(h2:eW P N all K E d rest env s x):eW P N all K E d rest env s (if c then x else none):=by rw[if_pos h];exact h2
theorem QF {d:Option Tmp}{c:Prop}[Decidable c]{x:Option St}(h:c)(h2:mU P N all K E d rest env x):mU P N all K E d rest env (if c then x else none):=by rw[if_pos h];exact h2
theorem ao {d:Option Tmp}{f:FuncId}{xs:Tb}{α:Sort _}{F:α->VV}{S:α->St}{R:α->Prop}(hc:an P f)(h:SCalls P f xs s fun e t=>∃a,e=.ret (F a)/\t=S a/\R a)
  (hr:∀a,R a->aw P N all K E rest (put N env d (F a)) (S a)):mX P N all K E d rest env s f xs:=
 ⟨_,.inl ⟨hc,h⟩,fun x t q=>by obtain⟨a,e,e',r⟩:=q;injection e with e;subst e;subst e';exact hr a r,(fun x t q=>by obtain⟨a,e,_⟩:=q;cases e)⟩
end
theorem jh {s:St}{r b:Nat}{T:TypeId}{xs:Tb}:((s.set r (.obj T xs)) b=.free)=(¬ b=r/\¬ r=b/\s b=.free):=by
 apply propext
 simp only[St.set]
 constructor
 ·intro h
  split at h
  ·cases h
  ·rename_i hn;exact⟨hn,fun e=>hn e.symm,h⟩
 ·rintro⟨h1,_,h2⟩;rw[if_neg h1];exact h2
theorem nu {s:St}{r b:Nat}{T:TypeId}{z n:Nat}:((s.set r (.vec T z n)) b=.free)=(¬ b=r/\¬ r=b/\s b=.free):=by
 apply propext
 simp only[St.set]
 constructor
 ·intro h
  split at h
  ·cases h
  ·rename_i hn;exact⟨hn,fun e=>hn e.symm,h⟩
 ·rintro⟨h1,_,h2⟩;rw[if_neg h1];exact h2
theorem ji {s:St}{r b:Nat}{es:Tc}:((s.set r (.map es)) b=.free)=(¬ b=r/\¬ r=b/\s b=.free):=by
 apply propext
 simp only[St.set]
 constructor
 ·intro h
  split at h
  ·cases h
  ·rename_i hn;exact⟨hn,fun e=>hn e.symm,h⟩
 ·rintro⟨h1,_,h2⟩;rw[if_neg h1];exact h2
theorem vm {x:Cell}{r b:Nat}{T:TypeId}{xs:Tb}:((if b=r then Cell.obj T xs else x)=.free)=(¬ b=r/\¬ r=b/\x=.free):=by
 have:=jh (s:=fun _=>x) (r:=r) (b:=b) (T:=T) (xs:=xs)
 exact this
theorem vh {x:Cell}{r b:Nat}{T:TypeId}{z n:Nat}:((if b=r then Cell.vec T z n else x)=.free)=(¬ b=r/\¬ r=b/\x=.free):=by
 have:=nu (s:=fun _=>x) (r:=r) (b:=b) (T:=T) (z:=z) (n:=n)
 exact this
theorem vo {x:Cell}{r b:Nat}{es:Tc}:((if b=r then Cell.map es else x)=.free)=(¬ b=r/\¬ r=b/\x=.free):=by
 have:=ji (s:=fun _=>x) (r:=r) (b:=b) (es:=es)
 exact this
theorem nz {s:St}{r b:Nat}{T:TypeId}{xs:Tb}{rs:List (Nat×TypeId×Nat)}:((s.set r (.pk T xs rs)) b=.free)=(¬ b=r/\¬ r=b/\s b=.free):=by
 apply propext
 simp only[St.set]
 constructor
 ·intro h
  split at h
  ·cases h
  ·rename_i hn;exact⟨hn,fun e=>hn e.symm,h⟩
 ·rintro⟨h1,_,h2⟩;rw[if_neg h1];exact h2
theorem vk {x:Cell}{r b:Nat}{T:TypeId}{xs:Tb}{rs:List (Nat×TypeId×Nat)}:((if b=r then Cell.pk T xs rs else x)=.free)=(¬ b=r/\¬ r=b/\x=.free):=by
 have:=nz (s:=fun _=>x) (r:=r) (b:=b) (T:=T) (xs:=xs) (rs:=rs)
 exact this
theorem ny {s:St}{r b:Nat}{T:TypeId}{sz:Nat}{xs:Tb}:((s.set r (.row T sz xs)) b=.free)=(¬ b=r/\¬ r=b/\s b=.free):=by
 apply propext
 simp only[St.set]
 constructor
 ·intro h
  split at h
  ·cases h
  ·rename_i hn;exact⟨hn,fun e=>hn e.symm,h⟩
 ·rintro⟨h1,_,h2⟩;rw[if_neg h1];exact h2
theorem vi {x:Cell}{r b:Nat}{T:TypeId}{sz:Nat}{xs:Tb}:((if b=r then Cell.row T sz xs else x)=.free)=(¬ b=r/\¬ r=b/\x=.free):=by
 have:=ny (s:=fun _=>x) (r:=r) (b:=b) (T:=T) (sz:=sz) (xs:=xs)
 exact this
theorem nef {s:St}{a b:Nat}(hb:s b=.free)(ha:s a≠.free):¬ a=b/\¬ b=a:=⟨fun e=>ha (e ▸ hb),fun e=>ha (e ▸ hb)⟩
theorem yb {s:St}{a b:Nat}{c d e:Cell}(h:¬ b=a):((s.set a c).set b d).set a e=(s.set a e).set b d:=by
 funext x
 simp only[St.set]
 by_cases h1:x=a
 ·subst h1;simp[Ne.symm h]
 ·simp[h1]
theorem uo {s:St}{a b b2:Nat}{c d d2 e:Cell}(h:¬ b=a)(h2:¬ b2=a):(((s.set a c).set b d).set b2 d2).set a e=((s.set a e).set b d).set b2 d2:=by
 funext x
 simp only[St.set]
 by_cases h1:x=a
 ·subst h1;simp[Ne.symm h,Ne.symm h2]
 ·simp[h1]
theorem EB (n:Nat):(0<=(n:Int))=True:=eq_true (Int.natCast_nonneg n)
theorem PU (n:Nat):(n:Int)+1=((n+1:Nat):Int):=rfl
theorem PS (n:Nat):(n:Int)+2=((n+2:Nat):Int):=rfl
theorem PQ (n m:Nat):(n:Int)+(m:Int)=((n+m:Nat):Int):=rfl
attribute [go_sem] EB PU PS PQ
def St.disown (s:St)(o:Own):St:=
 match o with
 |.at_ b=>s.set b .free
 |_=>s
def cq (o:Own)(x:Nat):Prop:=
 match o with
 |.at_ b=>¬ x=b
 |_=>True
def iZ (s:St)(o:Own)(T:TypeId)(sz n:Nat):Prop:=
 match o with
 |.no=>False
 |.full=>n=0
 |.at_ b=>s b=.vec T sz n
section
variable {s : St} {o o' : Own} {T T' : TypeId} {sz n m b sz' : Nat} {c : Cell}
theorem AG:((s.own o T sz n) b=.free)=(cq o b/\s b=.free):=by
 apply propext
 cases o with
 |at_ x=>
  simp only[St.own,St.set,cq]
  by_cases h:b=x<;>simp[h]
 |_=>simp[St.own,cq]
theorem uV (h:cq o b):(s.own o T sz n) b=s b:=by
 cases o with
 |at_ x=>simp only[cq]at h;simp[St.own,St.set,h]
 |_=>rfl
theorem sS (h:cq o b):(s.set b c).own o T sz n=(s.own o T sz n).set b c:=by
 cases o with
 |at_ x=>
  simp only[cq]at h
  funext y
  simp only[St.own,St.set]
  by_cases h1:y=x
  ·subst h1;simp[Ne.symm h]
  ·simp[h1]
 |_=>rfl
theorem bz (h:cq o b):(s.set b c).disown o=(s.disown o).set b c:=by
 cases o with
 |at_ x=>
  simp only[cq]at h
  funext y
  simp only[St.disown,St.set]
  by_cases h1:y=x
  ·subst h1;simp[Ne.symm h]
  ·simp[h1]
 |_=>rfl
theorem bB (h:OwnOk s o m):(s.own o T sz n).disown o=s:=by
 cases o with
 |at_ x=>
  simp only[OwnOk]at h
  funext y
  simp only[St.own,St.disown,St.set]
  by_cases h1:y=x
  ·subst h1;simp[h]
  ·simp[h1]
 |_=>rfl
theorem yo (h:cq o b):iZ (s.set b c) o T sz n=iZ s o T sz n:=by
 cases o with
 |at_ x=>
  simp only[cq]at h
  simp[iZ,St.set,Ne.symm h]
 |_=>rfl
theorem yp (h:OwnOk s o n):iZ (s.own o T sz n) o T sz n=True:=by
 apply eq_true
 cases o with
 |no=>exact h
 |full=>exact h
 |at_ b=>simp[iZ,St.own,St.set]
theorem cZ {xs:Tb}:OwnOk (s.set b (.obj T xs)) o n=(cq o b/\OwnOk s o n):=by
 cases o with
 |at_ x=>simp only[OwnOk,cq,jh];apply propext;constructor<;>(rintro⟨h1,h2⟩;grind)
 |_=>simp[OwnOk,cq]
theorem c6 {es:Tc}:OwnOk (s.set b (.map es)) o n=(cq o b/\OwnOk s o n):=by
 cases o with
 |at_ x=>simp only[OwnOk,cq,ji];apply propext;constructor<;>(rintro⟨h1,h2⟩;grind)
 |_=>simp[OwnOk,cq]
theorem OwnOk.not (h:OwnOk s o n)(hb:s b≠.free):cq o b:=by
 cases o with
 |at_ x=>rintro rfl;exact hb h
 |_=>trivial
theorem AF:s.own .full T sz n=s:=rfl
theorem vM {k:VV->St->Prop}{e:TypeId}{q:QI}{xs ys:Ta}(n m:Nat)(hn:xs.length=n)(hys:ys.length=m)(ho:iZ s o e q.sz n)(hb:(n+m) * q.bt<=140737488355328)(hm:n+m<=9223372036854775807)
  (hy:∀y,y∈ys->y.length=q.sz) (hz:q.zok=true)
  (h:∀o',OwnOk (s.disown o) o' (n+m)->k (.lst (xs++ys) o') ((s.disown o).own o' e q.sz (n+m))):fe k e q xs ys o s:=by
 subst hn
 subst hys
 refine⟨hb,hm,hy,hz,?_⟩
 cases o with
 |no=>exact ho.elim
 |full=>
  have hx:xs=[]:=l_ ho
  subst hx
  refine⟨by simp,fun e=>?_,fun _ b hb=>?_⟩
  ·subst e;exact h .full rfl
  ·exact h (.at_ b) hb
 |at_ b=>
  refine⟨ho,fun b' hb'=>?_⟩
  have:=h (.at_ b') (by
   simp only[OwnOk,St.disown,St.set]
   rcases hb' with rfl|hb'
   ·simp
   ·simp[hb'])
  exact this
end
theorem Fg.setA {s1 s:St}(h:Fg s1 s){b:Nat}{c:Cell}(hb:s b=.free):Fg (s1.set b c) s:=fun x=>by
 by_cases hx:x=b
 ·subst hx;exact .inl hb
 ·rw[j_ _ _ hx];exact h x
attribute [go_sem] AG uV sS bz bB yo yp AF
theorem bV {P:Program}{N:Nat}{D:List Deferred}{k:List Itm}{Q:Pst}{env:Env}{s:St}{c:Code}(I:Nat->Env->St->Prop)(n:Nat)(h0:∃s0,Fg s s0/\I n env s0)
  (hr:∀n env s,I n env s->Kp P N D (.code c::.back (fun env' s'=>∃s'',Fg s' s''/\∃m,m<n/\I m env' s'')::k) Q .norm env s) :
  Kp P N D (.code (.loop c)::k) Q .norm env s:=by
 obtain⟨s0,hf,h0⟩:=h0
 refine dr hf ?_
 refine aY (fun n env s'=>∃s'',Fg s' s''/\I n env s'') n ⟨s0,Fg.refl _,h0⟩ ?_
 rintro n env s' ⟨s'',hf,hI⟩
 refine dr hf ?_
 refine kL ?_ (hr n env s'' hI)
 rintro env s ⟨s3,h1,m,hm,h2⟩
 exact⟨m,hm,s3,h1,h2⟩
attribute [go_sem] St.set_set yb uo
section
variable {P : Program} {N : Nat} {all : List Oper}
def dI (P:Program)(N:Nat)(all:List Oper)(I:Array Bool->St->Prop)(K:Env->St->Prop)(E:VV->Env->St->Prop):Nat->Array Bool->Env->St->Prop
 |0,listed,env,s=>Region.ready .any all.toArray listed=[]/\K env s
 |f+1,listed,env,s=>(Region.ready .any all.toArray listed=[]->K env s) /\
   ∀i∈Region.ready .any all.toArray listed,lY P N all E i (fun env s=>I (listed.setIfInBounds i true) s/\dI P N all I K E f (listed.setIfInBounds i true) env s) env s
theorem pL {I:Array Bool->St->Prop}{K:Env->St->Prop}{E:VV->Env->St->Prop}:∀(f:Nat) (listed:Array Bool) (env:Env) (s:St),dI P N all I K E f listed env s->CG P N all K E f listed env s
 |0,_,_,_,h=>h
 |f+1,_,_,_,h=>⟨h.1,fun i hi=>pJ (fun e s h=>pL f _ e s h.2) (h.2 i hi)⟩
theorem dB {I J:Array Bool->St->Prop}{K:Env->St->Prop}{E:VV->Env->St->Prop}(hw:∀l s,I l s->J l s):∀(f:Nat) (listed:Array Bool) (env:Env) (s:St),dI P N all I K E f listed env s->dI P N all J K E f listed env s
 |0,_,_,_,h=>h
 |f+1,_,_,_,h=>⟨h.1,fun i hi=>pJ (fun e s h=>⟨hw _ _ h.1,dB hw f _ e s h.2⟩) (h.2 i hi)⟩
def oH (p:String):Op->Bool
 |.move _|.assign _|.pick ..|.build ..|.load ..|.lookup ..|.nilCheck _|.unOp ..|.field ..|.fieldAddr ..|.index ..|.indexAddr ..|.slice ..|.makeInterface ..|.makeFunc ..|.extract ..|.binOp ..|.typeAssert ..=>true
 |.call c=>match c.callee with|.builtin .len=>true|.builtin .min=>true|.builtin .max=>true|_=>false
 |.buildSlice T ..=>!v7 T p
 |.convert ..=>true
 |_=>false
def ev (P:Program)(env:Env)(s:St)(op:Op)(s':St):Prop:=
 match op with
 |.load T a=>fJ (qi P T) (rd env a) s'=fJ (qi P T) (rd env a) s
 |.lookup T m k ok=>ez (qi P T) (qi P (aE (qi P T))) (qi P (jr (qi P T))) (rd env m) (rd env k) ok s'=ez (qi P T) (qi P (aE (qi P T))) (qi P (jr (qi P T))) (rd env m) (rd env k) ok s
 |.convert src dst x=>er P src dst (rd env x) s'=er P src dst (rd env x) s
 |.call c=>match c.callee with
  |.builtin .len=>match c.args.toList,c.argTypes.toList with|[x],[T]=>db (qi P T) (rd env x) s'=db (qi P T) (rd env x) s|_,_=>True
  |_=>True
 |_=>True
def tq (v:VV)(w:Bool)(p:Prop):Prop:=match v with|.bool b=>if b=w then p else True|_=>True
def jX (P:Program)(all:List Oper)(env:Env)(s:St)(o:Oper)(s':St):Prop:=
 match o.guard with
 |none=>ev P env s o.op s'
 |some (j,w)=>tq (yv all env j) w (ev P env s o.op s')
def oF (P:Program)(all:List Oper)(env:Env)(s:St):List Oper->St->Prop
 |[],_=>True
 |o::r,s'=>jX P all env s o s'/\oF P all env s r s'
theorem mT {o:Oper}{E:VV->Env->St->Prop}{rest:Env->St->Prop}{env:Env}{s:St}(hh:oH o.pos o.op=true)(h:aP P N E o rest env s) :
  ∃y,rest (put N env o.dst y) s/\∀s',ev P env s o.op s'->∀(E':VV->Env->St->Prop) (rest':Env->St->Prop),rest' (put N env o.dst y) s'->aP P N E' o rest' env s':=by
 obtain⟨d,op,ty,p,af,g⟩:=o
 have opt:∀(z:Option VV),dS (fun x=>rest (put N env d x) s) z->∃y,z=some y/\rest (put N env d y) s:=fun z hz=>by
  cases z with
  |none=>exact hz.elim
  |some y=>exact⟨y,rfl,hz⟩
 simp only at hh ⊢
 cases op<;>first|(cases hh;done)|skip
 case move x=>exact⟨_,h,fun s' _ E' r hr=>hr⟩
 case assign x=>exact⟨_,h,fun s' _ E' r hr=>hr⟩
 case pick c a b=>
  simp only[aP]at h ⊢
  split at h
  ·rename_i t hc
   exact⟨_,h,fun s' _ E' r hr=>hr⟩
  ·exact h.elim
 case build T parts=>
  simp only[aP]at h ⊢
  obtain⟨h1,h2,h3⟩:=h
  cases hv:gL P T (qi P T).z (parts.toList.map fun p=>(p.1,rd env p.2))with
  |none=>rw[hv]at h3;exact h3.elim
  |some cs=>rw[hv]at h3;exact⟨_,h3,fun s' _ E' r hr=>⟨h1,h2,hr⟩⟩
 case buildSlice T n parts=>
  have hmu:¬ v7 T p=true:=by simpa [oH]using hh
  simp only[aP,if_neg hmu]at h ⊢
  obtain⟨h1,h2,h3,h4,h6⟩:=h
  cases hv:gj (qi P (aE (qi P T))).sz 0 (parts.toList.map fun p=>(p.1,rd env p.2))with
  |none=>rw[hv]at h6;exact h6.elim
  |some cs=>rw[hv]at h6;exact⟨_,h6,fun s' _ E' r hr=>⟨h1,h2,h3,h4,hr⟩⟩
 case load T a=>
  simp only[aP]at h ⊢
  obtain⟨y,hy,hr⟩:=opt _ h
  exact⟨y,hr,fun s' hs E' r hr=>by simp only[ev]at hs;rw[hs,hy];exact hr⟩
 case convert src dst x=>
  simp only[aP]at h ⊢
  obtain⟨y,hy,hr⟩:=opt _ h
  exact⟨y,hr,fun s' hs E' r hr=>by simp only[ev]at hs;rw[hs,hy];exact hr⟩
 case nilCheck x=>
  simp only[aP]at h ⊢
  exact⟨_,h.2,fun s' _ E' r hr=>⟨h.1,hr⟩⟩
 case binOp op T x y yt=>
  simp only[aP]at h ⊢
  split at h
  ·rename_i k a k' b ha hb
   obtain⟨y,hy,hr⟩:=opt _ h.2
   exact⟨y,hr,fun s' _ E' r hr=>⟨h.1,by rw[hy];exact hr⟩⟩
  ·split at h
   ·exact⟨_,h.2,fun s' _ E' r hr=>⟨h.1,hr⟩⟩
   ·exact⟨_,h,fun s' _ E' r hr=>hr⟩
   ·exact⟨_,h,fun s' _ E' r hr=>hr⟩
   ·exact h.elim
  ·obtain⟨h0,h⟩:=h
   split at h
   ·exact⟨_,h,fun s' _ E' r hr=>⟨h0,hr⟩⟩
   ·exact⟨_,h,fun s' _ E' r hr=>⟨h0,hr⟩⟩
   ·exact h.elim
  ·obtain⟨h0,h1,h2,h⟩:=h
   split at h
   ·exact⟨_,h,fun s' _ E' r hr=>⟨h0,h1,h2,hr⟩⟩
   ·exact⟨_,h,fun s' _ E' r hr=>⟨h0,h1,h2,hr⟩⟩
   ·exact h.elim
  ·rename_i us vs _ _
   split at h
   ·cases hv:jz P T us vs with
    |none=>rw[hv]at h;exact h.elim
    |some b=>rw[hv]at h;exact⟨_,h,fun s' _ E' r hr=>hr⟩
   ·cases hv:jz P T us vs with
    |none=>rw[hv]at h;exact h.elim
    |some b=>rw[hv]at h;exact⟨_,h,fun s' _ E' r hr=>hr⟩
   ·exact h.elim
  ·obtain⟨h0,h⟩:=h
   split at h
   ·cases hv:eG (qi P T).k (rd env x) (rd env y)with
    |none=>rw[hv]at h;exact h.elim
    |some b=>rw[hv]at h;exact⟨_,h,fun s' _ E' r hr=>⟨h0,hr⟩⟩
   ·cases hv:eG (qi P T).k (rd env x) (rd env y)with
    |none=>rw[hv]at h;exact h.elim
    |some b=>rw[hv]at h;exact⟨_,h,fun s' _ E' r hr=>⟨h0,hr⟩⟩
   ·exact h.elim
 case unOp op T x=>
  simp only[aP]at h ⊢
  split at h
  ·exact⟨_,h,fun s' _ E' r hr=>hr⟩
  ·exact⟨_,h,fun s' _ E' r hr=>hr⟩
  ·exact h.elim
 case makeInterface T x=>
  simp only[aP]at h ⊢
  exact⟨_,h.2,fun s' _ E' r hr=>⟨h.1,hr⟩⟩
 case makeFunc fn fs caps=>
  cases fn with
  |func f=>
   simp only[aP]at h ⊢
   exact⟨_,h.2,fun s' _ E' r hr=>⟨h.1,hr⟩⟩
  |_=>exact h.elim
 case slice T x lo hi mx=>
  simp only[aP]at h ⊢
  obtain⟨y,hy,hr⟩:=opt _ h.2
  exact⟨y,hr,fun s' _ E' r hr=>⟨h.1,by rw[hy];exact hr⟩⟩
 case fieldAddr T x j=>
  simp only[aP]at h ⊢
  split at h
  ·exact⟨_,h.2,fun s' _ E' r hr=>⟨h.1,hr⟩⟩
  ·exact⟨_,h,fun s' _ E' r hr=>hr⟩
  ·exact h.elim
 case field T x j=>
  simp only[aP]at h ⊢
  split at h
  ·obtain⟨y,hy,hr⟩:=opt _ h
   exact⟨y,hr,fun s' _ E' r hr=>by rw[hy];exact hr⟩
  ·exact h.elim
 case indexAddr T x i=>
  simp only[aP]at h ⊢
  obtain⟨y,hy,hr⟩:=opt _ h
  exact⟨y,hr,fun s' _ E' r hr=>by rw[hy];exact hr⟩
 case index T x i=>
  simp only[aP]at h ⊢
  obtain⟨y,hy,hr⟩:=opt _ h
  exact⟨y,hr,fun s' _ E' r hr=>by rw[hy];exact hr⟩
 case lookup T m k ok=>
  simp only[aP]at h ⊢
  obtain⟨y,hy,hr⟩:=opt _ h
  exact⟨y,hr,fun s' hs E' r hr=>by simp only[ev]at hs;rw[hs,hy];exact hr⟩
 case typeAssert x xt T ok=>
  simp only[aP]at h ⊢
  obtain⟨h1,h2,h3⟩:=h
  split at h3
  ·exact⟨_,h3.2,fun s' _ E' r hr=>⟨h1,h2,h3.1,hr⟩⟩
  ·exact h3.elim
 case extract t i=>
  simp only[aP]at h ⊢
  split at h
  ·obtain⟨y,hy,hr⟩:=opt _ h
   exact⟨y,hr,fun s' _ E' r hr=>by rw[hy];exact hr⟩
  ·exact h.elim
 case call c=>
  obtain⟨cal,args,ts⟩:=c
  cases cal with
  |value f=>cases hh
  |invoke r m=>cases hh
  |builtin b=>
   cases b<;>first|(cases hh;done)|skip
   case len=>
    simp only[aP]at h ⊢
    split at h
    ·rename_i x T hx hT
     obtain⟨y,hy,hr⟩:=opt _ h
     exact⟨y,hr,fun s' hs E' r hr=>by simp only[ev,hx,hT]at hs;rw[hs,hy];exact hr⟩
    ·exact h.elim
   case min=>
    simp only[aP]at h ⊢
    split at h
    ·obtain⟨y,hy,hr⟩:=opt _ h
     exact⟨y,hr,fun s' _ E' r hr=>by rw[hy];exact hr⟩
    ·exact h.elim
   case max=>
    simp only[aP]at h ⊢
    split at h
    ·obtain⟨y,hy,hr⟩:=opt _ h
     exact⟨y,hr,fun s' _ E' r hr=>by rw[hy];exact hr⟩
    ·exact h.elim
theorem ud {o:Oper}{E:VV->Env->St->Prop}{rest:Env->St->Prop}{env:Env}{s:St}(hh:oH o.pos o.op=true)(h:gV P N all E o rest env s) :
  ∃y,rest (put N env o.dst y) s/\∀s',jX P all env s o s'->YV P N all s' o y env:=by
 unfold gV at h
 unfold jX YV gV
 cases hg:o.guard with
 |none=>
  rw[hg]at h
  obtain⟨y,h1,h2⟩:=mT hh h
  exact⟨y,h1,fun s' hs K hK=>h2 s' hs _ _ hK⟩
 |some g=>
  obtain⟨j,w⟩:=g
  rw[hg]at h
  simp only at h ⊢
  unfold gU at h
  split at h
  ·rename_i b hb
   rw[hb]
   simp only[tq,gU]
   split at h
   ·rename_i hbw
    obtain⟨y,h1,h2⟩:=mT hh h
    refine⟨y,h1,fun s' hs K hK=>?_⟩
    rw[if_pos hbw]at hs ⊢
    exact h2 s' hs _ _ hK
   ·rename_i hbw
    refine⟨.tup [],h,fun s' hs K hK=>?_⟩
    rw[if_neg hbw]
    exact hK
  ·rename_i xs hb
   refine⟨.tup [],h,fun s' hs K hK=>?_⟩
   rw[hb]
   exact hK
  ·exact h.elim
theorem lU {op:Op}{env env':Env}{s s':St}(hx:∀x∈op.operands.toList,rd env' x=rd env x)(h:ev P env s op s'):ev P env' s op s':=by
 cases op<;>first|trivial|skip
 case load T a=>
  have:=hx a (by simp[Op.operands])
  simp only[ev,this]at h ⊢;exact h
 case convert src dst x=>
  have:=hx x (by simp[Op.operands])
  simp only[ev,this]at h ⊢;exact h
 case lookup T m k ok=>
  have h1:=hx m (by simp[Op.operands])
  have h2:=hx k (by simp[Op.operands])
  simp only[ev,h1,h2]at h ⊢;exact h
 case call c=>
  obtain⟨cal,args,ts⟩:=c
  cases cal<;>first|trivial|skip
  rename_i b
  cases b<;>first|trivial|skip
  case len=>
   simp only[ev]at h ⊢
   split at h
   ·rename_i x T ha hT
    have h1:=hx x (by simp[Op.operands,Call.operands,ha])
    simp only[h1];exact h
   ·trivial
theorem tp {o:Oper}{env env':Env}{s s':St}(hx:∀x∈o.op.operands.toList,rd env' x=rd env x)(hg:∀j b,o.guard=some (j,b)->yv all env' j=yv all env j)(h:jX P all env s o s'):jX P all env' s o s':=by
 unfold jX at *
 cases ho:o.guard with
 |none=>rw[ho]at h;exact lU hx h
 |some g=>
  obtain⟨j,w⟩:=g
  rw[ho]at h
  simp only at h ⊢
  rw[hg j w ho]
  unfold tq at *
  cases hy:yv all env j<;>rw[hy]at h<;>first|trivial|skip
  rename_i b
  simp only at h ⊢
  by_cases hb:b=w
  ·rw[if_pos hb]at h ⊢;exact lU hx h
  ·rw[if_neg hb];trivial
def fE (all:List Oper)(k:Nat):Bool:=match all[k]? with|some o=>oH o.pos o.op|none=>false
def ja (all:List Oper):Nat->Nat->Tg
 |0,_,_=>false
 |n+1,j,k=>match all[j]? with|some o=>o.after.any fun e=>Region.binds .any e && (e.on == k || ja all n e.on k)|none=>false
def eS (all:List Oper)(k:Nat)(l:Array Bool):Bool:=(List.range all.length).all fun j=>!(l.getD j false) || fE all j || !ja all all.length j k
def dq (all:List Oper)(l:Array Bool):Bool:=(List.range all.length).all fun i=>!(l.getD i false) || (match all[i]? with|some o=>o.after.all (fun e=>!Region.binds .any e || l.getD e.on false)|none=>true)
theorem j7 {l:Array Bool}(h:dq all l=true){i:Nat}{o:Oper}(hi:all[i]?=some o)(hl:l.getD i false=true):∀e∈o.after,Region.binds .any e=true->l.getD e.on false=true:=by
 intro e he hb
 have hlt:i<all.length:=(x_.1 hi).1
 have:=List.all_eq_true.1 h i (List.mem_range.2 hlt)
 simp only[hl,hi,Bool.not_true,Bool.false_or,Array.all_eq_true_iff_forall_mem]at this
 simpa [hb]using this e he
theorem ky {l:Array Bool}(h:dq all l=true){k:Nat}:∀(n j:Nat),(∀o,all[j]?=some o->∀e∈o.after,Region.binds .any e=true->l.getD e.on false=true)->ja all n j k=true->l.getD k false=true
 |0,_,_,hw=>by cases hw
 |n+1,j,hp,hw=>by
  unfold ja at hw
  cases hj:all[j]? with
  |none=>rw[hj]at hw;cases hw
  |some o=>
   rw[hj]at hw
   simp only[Array.any_eq_true']at hw
   obtain⟨e,he,hw⟩:=hw
   simp only[Bool.and_eq_true,Bool.or_eq_true,beq_iff_eq]at hw
   obtain⟨hb,hw⟩:=hw
   have hl:=hp o hj e he hb
   rcases hw with rfl|hw
   ·exact hl
   ·exact ky h n e.on (fun o' ho'=>j7 h ho' hl) hw
theorem Bg {l:Array Bool}{i j:Nat}{d:Bool}(h:l.getD j d=true\/(l.setIfInBounds i true).getD j d=true)(hne:j≠i):l.getD j d=true:=by
 rcases h with h|h
 ·exact h
 ·rwa [getD_set_ne d (Ne.symm hne)]at h
theorem oS {l:Array Bool}(h:dq all l=true){j:Nat}(hr:j∈Region.ready .any all.toArray l):dq all (l.setIfInBounds j true)=true:=by
 obtain⟨_,oj,hoj,hall⟩:=mem_ready.1 hr
 have hoj':all[j]?=some oj:=by simpa using hoj
 have up:∀x,l.getD x false=true->(l.setIfInBounds j true).getD x false=true:=fun x hx=>by
  by_cases hxj:x=j
  ·subst hxj
   have:x<l.size:=by
    rcases Nat.lt_or_ge x l.size with h|h
    ·exact h
    ·simp[Array.getD,Nat.not_lt.2 h]at hx
   simp[Array.getD,this]
  ·rwa [getD_set_ne false (Ne.symm hxj)]
 refine List.all_eq_true.2 fun i hi=>?_
 cases hl:(l.setIfInBounds j true).getD i false with
 |false=>rfl
 |true=>
  simp only[Bool.not_true,Bool.false_or]
  cases ho:all[i]? with
  |none=>rfl
  |some o=>
   simp only[Array.all_eq_true_iff_forall_mem]
   intro e he
   cases hb:Region.binds .any e with
   |false=>rfl
   |true=>
    simp only[Bool.not_true,Bool.false_or]
    by_cases hij:i=j
    ·subst hij
     rw[hoj']at ho
     injection ho with ho
     subst ho
     exact up _ (hall e he hb)
    ·exact up _ (j7 h ho (Bg (.inr hl) hij) e he hb)
theorem pG {l:Array Bool}(h:dq all l=true){k:Nat}(hk:l.getD k false=false):eS all k l=true:=by
 refine List.all_eq_true.2 fun j hj=>?_
 cases hl:l.getD j false with
 |false=>rfl
 |true=>
  cases hw:ja all all.length j k with
  |false=>simp
  |true=>
   have:=ky h all.length j (fun o ho=>j7 h ho hl) hw
   rw[this]at hk;cases hk
theorem jt {l:Array Bool}{k k':Nat}(hh:fE all k'=true):eS all k (l.setIfInBounds k' true)=eS all k l:=by
 have e:∀j,(!((l.setIfInBounds k' true).getD j false) || fE all j || !ja all all.length j k)=(!(l.getD j false) || fE all j || !ja all all.length j k):=fun j=>by
  by_cases hj:j=k'
  ·subst hj;rw[hh];simp
  ·rw[getD_set_ne false (Ne.symm hj)]
 unfold eS
 simp only[e]
def HM (all:List Oper)(I:Array Bool->St->Prop):Prop:=∀k,fE all k=true->∀l s,I (l.setIfInBounds k true) s↔I l s
theorem r9 {I:Array Bool->St->Prop}{J:St->Prop}{K:Env->St->Prop}{E:VV->Env->St->Prop}{keep:TW}(hE:EOk N keep E)(hM:HM all I){i:Nat}{oi:Oper}{y:VV}(hi:all[i]?=some oi)(hih:fE all i=true)(hdk:dOk keep oi.dst=true) :
  ∀(f:Nat) (listed:Array Bool) (env:Env) (s:St),dq all listed=true ->
   (∀j oj,all.toArray[j]?=some oj->j≠i->listed.getD j true=false->(∀e∈oj.after,Region.binds .any e=true->e.on≠i)->oi.apart all.toArray oj=true) ->
   i∈Region.ready .any all.toArray listed->(∀s,J s->YV P N all s oi y env)->I listed s->J s ->
   dI P N all (fun l s=>I l s/\(eS all i l=true->J s)) K E f (listed.setIfInBounds i true) (put N env oi.dst y) s->dI P N all I K E (f+1) listed env s:=by
 have take:∀(env:Env) (s:St) (K':Env->St->Prop),YV P N all s oi y env->K' (put N env oi.dst y) s->lY P N all E i K' env s:=fun env s K' hy hk=>by
  unfold lY
  rw[hi]
  exact d8 (E:=F0) (fun _ _=>rfl) (fun _ _ _=>rfl) (fun _ _ h=>h) (fun _ _ h=>h.elim) (hy K' hk)
 intro f
 induction f with
 |zero=>
  intro listed env s _ _ hr hy hI hJ H
  refine⟨fun h=>(by rw[h]at hr;cases hr),fun j hj=>?_⟩
  by_cases hji:j=i
  ·subst hji;exact take _ _ _ (hy s hJ) ⟨(hM _ hih _ _).2 hI,dB (fun l s h=>h.1) _ _ _ _ H⟩
  ·have:=ready_mono hj hji
   rw[H.1]at this
   cases this
 |succ f ih=>
  intro listed env s hcl hfree hr hy hI hJ H
  refine⟨fun h=>(by rw[h]at hr;cases hr),fun j hj=>?_⟩
  by_cases hji:j=i
  ·subst hji;exact take _ _ _ (hy s hJ) ⟨(hM _ hih _ _).2 hI,dB (fun l s h=>h.1) _ _ _ _ H⟩
  ·have h1:=H.2 j (ready_mono hj hji)
   obtain⟨hjun,oj,hoj,hall⟩:=mem_ready.1 hj
   have hun:=(mem_ready.1 hr).1
   have hnot:∀e∈oj.after,Region.binds .any e=true->e.on≠i:=fun e he hb heq=>by
    have h1:=hall e he hb
    rw[heq,getD_both hun]at h1
    cases h1
   have hap:=hfree j oj hoj hji hjun hnot
   obtain⟨a1,a2,a3⟩:=Oper.apart_spec hap
   have hfree':∀k ok,all.toArray[k]?=some ok->k≠i->(listed.setIfInBounds j true).getD k true=false ->
     (∀e∈ok.after,Region.binds .any e=true->e.on≠i)->oi.apart all.toArray ok=true:=fun k ok hk hki hun hno=>by
    refine hfree k ok hk hki ?_ hno
    by_cases hjk:j=k
    ·subst hjk;exact hjun
    ·rw[getD_set_ne true hjk]at hun;exact hun
   have hcl':=oS hcl hj
   have hfo:eS all i (listed.setIfInBounds j true)=true:=pG hcl' (by rw[getD_set_ne false hji];exact getD_both hun)
   have hj':all[j]?=some oj:=by simpa using hoj
   unfold lY at h1 ⊢
   rw[hj']at h1 ⊢
   obtain⟨e1,e2⟩:=BW (N:=N) (u:=y) (env:=env) a1
   refine d8 (fun x hx=>(e1 x hx).symm) (fun j b hg=>(e2 j b hg).symm) (fun z s' hz=>?_) (fun x s'=>hE x _ s' _ _ hdk) h1
   rw[Array.setIfInBounds_comm _ _ (Ne.symm hji)]at hz
   obtain⟨⟨hI',hJ'⟩,hz⟩:=hz
   rw[AA a2]at hz
   have hI2:=(hM _ hih _ _).1 hI'
   refine⟨hI2,ih (listed.setIfInBounds j true) (put N env oj.dst z) s' hcl' hfree' (ready_mono hr (Ne.symm hji)) (fun s'' hs''=>?_) hI2 (hJ' (by rw[jt hih];exact hfo)) hz⟩
   obtain⟨q1,q2⟩:=BW (N:=N) (u:=z) (env:=env) a3
   exact Fd q1 q2 (hy s'' hs'')
def Iof {s:St}{I:St->Prop}:Prop:=I s
def AR (all:List Oper)(o:Oper)(j:Nat):Bool:=match all[j]? with|some o'=>(match o'.dst with|some d=>!(o.looksAt all.toArray).contains d|none=>true)|none=>false
def eR (all:List Oper)(keep:TW):TW->Array Bool->Array Bool->Bool
 |[],listed,l2=>decide (listed=l2)
 |i::r,listed,l2=>(match all[i]? with|some o=>oH o.pos o.op && dOk keep o.dst && (i::r).all (AR all o)|none=>false) &&
   (Region.ready .any all.toArray listed).contains i && Region.free .any all.toArray listed i && eR all keep r (listed.setIfInBounds i true) l2
theorem oE {env:Env}{s:St}{op:Op}:ev P env s op s:=by
 unfold ev
 split
 ·rfl
 ·rfl
 ·rfl
 ·split
  ·split<;>trivial
  ·trivial
 ·trivial
theorem js {env:Env}{s:St}:∀{l:List Oper},oF P all env s l s
 |[]=>trivial
 |o::l=>⟨by
   unfold jX
   split
   ·exact oE
   ·unfold tq
    split
    ·split
     ·exact oE
     ·trivial
    ·trivial,js⟩
def dd (all:List Oper):TW->List Oper
 |[]=>[]
 |i::r=>match all[i]? with|some o=>o::dd all r|none=>dd all r
def jY (P:Program)(all:List Oper)(env:Env)(s:St)(is:TW)(l:Array Bool)(s':St):Prop:=oF P all env s (dd all (is.filter fun i=>eS all i l)) s'
theorem qz {env:Env}{s s':St}{is:TW}{l:Array Bool}{k:Nat}(hk:fE all k=true):jY P all env s is (l.setIfInBounds k true) s'↔jY P all env s is l s':=by
 unfold jY
 simp only[jt hk]
theorem xi {K:Env->St->Prop}{E:VV->Env->St->Prop}{keep:TW}(hE:EOk N keep E){l2:Array Bool}{f:Nat}{s:St}{Kh:Env->St->Prop} :
  ∀(is:TW) (ops:List Oper),is.map (fun i=>all[i]?)=ops.map some->∀(listed:Array Bool) (env:Env),dq all listed=true->eR all keep is listed l2=true->aw P N all Kh F0 ops env s ->
   ∃envf,Kh envf s/\(∀t,(∀o∈ops,o.dst≠some t)->envf t=env t) /\
    ∀I:Array Bool->St->Prop,HM all I->I listed s->dI P N all (fun l s''=>I l s''/\jY P all envf s is l s'') K E f l2 envf s->dI P N all I K E (f+is.length) listed env s
 |[],ops,hm,listed,env,hcl,hB,h=>by
  have:ops=[]:=by simpa using hm.symm
  subst this
  have:listed=l2:=by simpa [eR]using hB
  subst this
  exact⟨env,h,fun _ _=>rfl,fun I _ _ H=>dB (fun l s h=>h.1) _ _ _ _ H⟩
 |i::is,ops,hm,listed,env,hcl,hB,h=>by
  cases ops with
  |nil=>simp at hm
  |cons o ops=>
   simp only[List.map_cons,List.cons.injEq]at hm
   obtain⟨hi,hm'⟩:=hm
   simp only[eR,hi,Bool.and_eq_true,List.all_cons]at hB
   obtain⟨⟨⟨⟨⟨hh,hdk⟩,hself,hno⟩,hr⟩,hf⟩,hB'⟩:=hB
   have hr':i∈Region.ready .any all.toArray listed:=by simpa using hr
   have hih:fE all i=true:=by unfold fE;rw[hi];exact hh
   have h':gV P N all F0 o (fun e s'=>aw P N all Kh F0 ops e s') env s:=by
    unfold gV
    simp only[aw]at h
    exact h
   obtain⟨y,hy,hY⟩:=ud hh h'
   obtain⟨envf,hk,hag,himp⟩:=xi hE is ops hm' _ _ (oS hcl hr') hB' hy
   have nod:∀o'∈o::ops,∀d,o'.dst=some d->d∉o.looksAt all.toArray:=by
    intro o' ho' d hd
    rcases AT.1 ho' with rfl|ho'
    ·simp only[AR,hi,hd,Bool.not_eq_true',List.contains_eq_mem,decide_eq_false_iff_not]at hself
     exact hself
    ·have:some o'∈is.map (fun i=>all[i]?):=by rw[hm'];exact A_.2 ⟨o',ho',rfl⟩
     obtain⟨j,hj,hjo⟩:=A_.1 this
     have:=List.all_eq_true.1 hno j hj
     simp only[AR,hjo,hd,Bool.not_eq_true',List.contains_eq_mem,decide_eq_false_iff_not]at this
     exact this
   have agree:∀t,t∈o.looksAt all.toArray->envf t=env t:=by
    intro t ht
    have h1:envf t=put N env o.dst y t:=hag t fun o' ho' hd=>nod o' (List.mem_cons_of_mem _ ho') t hd ht
    rw[h1]
    have:=rq (N:=N) (env:=env) (dst:=o.dst) (u:=y) (x:=.tmp t) fun d hd e=>nod o (List.mem_cons_self ..) d hd (by injection e with e;subst e;exact ht)
    exact this
   refine⟨envf,hk,fun t ht=>?_,fun I hM hI H=>?_⟩
   ·have h1:envf t=put N env o.dst y t:=hag t fun o' ho'=>ht o' (List.mem_cons_of_mem _ ho')
    rw[h1]
    have:=rq (N:=N) (env:=env) (dst:=o.dst) (u:=y) (x:=.tmp t) fun d hd e=>by injection e with e;subst e;exact ht o (List.mem_cons_self ..) hd
    exact this
   ·have hoi:all[i]?=some o:=hi
    have hx:∀x∈o.op.operands.toList,rd env x=rd envf x:=fun x hx=>by
     cases x with
     |tmp t=>exact(agree t (List.mem_append_left _ (List.mem_filterMap.2 ⟨.tmp t,by simpa using hx,rfl⟩))).symm
     |_=>rfl
    have hg:∀j b,o.guard=some (j,b)->yv all env j=yv all envf j:=fun j b hgd=>by
     unfold yv
     cases hj:(all[j]?).bind (·.dst)with
     |none=>rfl
     |some t=>
      refine(agree t (List.mem_append_right _ ?_)).symm
      simp[hgd,hj]
    have hrefl:=(js (P:=P) (all:=all) (env:=env) (s:=s) (l:=[o])).1
    refine r9 (J:=fun s''=>jX P all env s o s'') hE hM hoi hih hdk (f+is.length) listed env s hcl (Region.free_spec (by simpa using hoi) hf) hr' (fun s' hs=>hY s' hs) hI hrefl ?_
    refine himp _ (fun k hk l s''=>?_) ⟨(hM _ hih _ _).2 hI,fun _=>hrefl⟩ (dB (fun l s'' hs=>?_) _ _ _ _ H)
    ·rw[jt hk,hM k hk l s'']
    ·obtain⟨h1,h2⟩:=hs
     unfold jY at h2 ⊢
     cases hfo:eS all i l with
     |false=>
      rw[List.filter_cons,hfo]at h2
      exact⟨⟨h1,fun h=>by cases h⟩,h2⟩
     |true=>
      rw[List.filter_cons,hfo]at h2
      simp only[if_true,dd,hi]at h2
      exact⟨⟨h1,fun _=>tp hx hg h2.1⟩,h2.2⟩
theorem nS {keep:TW}{l2:Array Bool}:∀(is:TW) (listed:Array Bool),eR all keep is listed l2=true->is.map (fun i=>all[i]?)=(dd all is).map some
 |[],_,_=>rfl
 |i::r,listed,h=>by
  simp only[eR,Bool.and_eq_true]at h
  cases hi:all[i]? with
  |none=>simp[hi]at h
  |some o=>simp only[dd,List.map_cons,hi,nS r _ h.2]
theorem nT:dd all []=[]:=rfl
def Gz:Option Oper->List Oper->List Oper
 |some o,l=>o::l
 |none,l=>l
theorem qg {i:Nat}{r:TW}:dd all (i::r)=Gz all[i]? (dd all r):=by simp only[dd];cases all[i]?<;>rfl
theorem qd {o:Oper}{l:List Oper}:Gz (some o) l=o::l:=rfl
theorem pq {I:Array Bool->St->Prop}{K:Env->St->Prop}{E:VV->Env->St->Prop}{keep:TW}(hE:EOk N keep E)(is:TW){f g:Nat}{listed:Array Bool}(l2:Array Bool){env:Env}{s:St}{ops:List Oper}
    (hm:dd all is=ops) (hB:eR all keep is listed l2=true) (hcl:dq all listed=true) (hg:g=f+is.length) (hI:@Iof s (I listed)) (hM:HM all I)
    (h:∀Kh:Env->St->Prop,@Kof (fun envf s'=>@Iof s' (fun s''=>I l2 s''/\jY P all envf s' is l2 s'')->HM all (fun l s''=>I l s''/\jY P all envf s' is l s'')->dI P N all (fun l s''=>I l s''/\jY P all envf s' is l s'') K E f l2 envf s') Kh->aw P N all Kh F0 ops env s) :
    dI P N all I K E g listed env s:=by
  subst hg
  obtain⟨envf,hk,_,himp⟩:=xi (K:=K) hE is ops (hm ▸ nS is listed hB) listed env hcl hB (h _ (fun _ _ h=>h))
  refine himp I hM hI (hk ⟨?_,js⟩ (fun k hk l s''=>by show (I _ _/\_)↔(I _ _/\_);rw[hM k hk l s'',qz hk]))
  have:∀(is:TW) (listed:Array Bool),eR all keep is listed l2=true->I listed s->I l2 s:=by
    intro is
    induction is with
    | nil => intro listed h hi; have : listed = l2 := by simpa [eR] using h
             subst this;exact hi
    |cons i is ih=>
      intro listed h hi
      simp only[eR,Bool.and_eq_true]at h
      refine ih _ h.2 ((hM i ?_ _ _).2 hi)
      unfold fE
      cases ho:all[i]? with
      |none=>rw[ho]at h;simp at h
      |some o=>rw[ho]at h;simp only[Bool.and_eq_true]at h;exact h.1.1.1.1.1
  exact this is listed hB hI
def zA (P:Program)(N:Nat)(all:List Oper)(I:Array Bool->St->Prop)(K:Env->St->Prop)(E:VV->Env->St->Prop)(f:Nat)(listed:Array Bool)(env:Env)(s:St):List (Nat×Array Bool)->Prop
 |[]=>True
 |i::r=>(listed.setIfInBounds i.1 true=i.2/\∀K':Env->St->Prop,@Kof (fun e s'=>I i.2 s'/\(@Iof s' (I i.2)->dI P N all I K E f i.2 e s')) K'->∃o,all[i.1]?=some o/\aw P N all K' E [o] env s)/\zA P N all I K E f listed env s r
theorem pK {I:Array Bool->St->Prop}{K:Env->St->Prop}{E:VV->Env->St->Prop}{f:Nat}{listed:Array Bool}{env:Env}{s:St}:∀{r:List (Nat×Array Bool)} {i:Nat},i∈r.map (·.1)->zA P N all I K E f listed env s r ->
  ∀K':Env->St->Prop,@Kof (fun e s'=>I (listed.setIfInBounds i true) s'/\(@Iof s' (I (listed.setIfInBounds i true))->dI P N all I K E f (listed.setIfInBounds i true) e s')) K'->∃o,all[i]?=some o/\aw P N all K' E [o] env s
 |[],i,h,_=>by cases h
 |j::r,i,h,hh=>by
  rcases AT.1 h with rfl|h
  ·intro K' hK'
   rw[hh.1.1]at hK'
   exact hh.1.2 K' hK'
  ·exact pK h hh.2
theorem vU {I:Array Bool->St->Prop}{K:Env->St->Prop}{E:VV->Env->St->Prop}{f:Nat}{listed:Array Bool}{env:Env}{s:St}(rs:List (Nat×Array Bool))(hr:Region.ready .any all.toArray listed=rs.map (·.1))(hne:rs.map (·.1)≠[])
  (h:zA P N all I K E f listed env s rs):dI P N all I K E (f+1) listed env s:=by
 refine⟨fun e=>absurd (hr.symm.trans e) hne,fun i hi=>?_⟩
 rw[hr]at hi
 obtain⟨o,ho,this⟩:=pK hi h (fun e s'=>I (listed.setIfInBounds i true) s'/\dI P N all I K E f (listed.setIfInBounds i true) e s') (fun _ _ h=>⟨h.1,h.2 h.1⟩)
 unfold lY
 rw[ho]
 exact this
theorem qM {I:Array Bool->St->Prop}{K K':Env->St->Prop}{E E':VV->Env->St->Prop}(hK:∀e s,K e s->K' e s)(hE:∀x e s,E x e s->E' x e s):∀(f:Nat) (listed:Array Bool) (env:Env) (s:St),dI P N all I K E f listed env s->dI P N all I K' E' f listed env s
 |0,_,_,_,h=>⟨h.1,hK _ _ h.2⟩
 |f+1,_,_,_,h=>⟨fun e=>hK _ _ (h.1 e),fun i hi=>by
   have h2:=h.2 i hi
   unfold lY at *
   cases ho:all[i]? with
   |none=>rw[ho]at h2;exact⟨h2.1,qM hK hE f _ _ _ h2.2⟩
   |some o=>
    rw[ho]at h2
    exact d8 (fun _ _=>rfl) (fun _ _ _=>rfl) (fun _ _ h=>⟨h.1,qM hK hE f _ _ _ h.2⟩) (fun _ _ h=>hE _ _ _ h) h2⟩
theorem Cr {D:List Deferred}{k:List Itm}{Q:Pst}{env:Env}{s:St}{id:Nat}{ops:List Oper}{keep:TW}(hm:P.follows .mixedOrders=true)(hQ:EOk N keep (fun x=>Q (.panic x)))
  (h:∀(K:Env->St->Prop) (E:VV->Env->St->Prop),@Kof (Kp P N D k Q .norm) K->@Eof (fun x=>Q (.panic x)) E->EOk N keep E ->
   @Iof s (fun _=>True)->HM ops (fun _ _=>True)->dI P N ops (fun _ _=>True) K E ops.length (Array.replicate ops.length false) env s) :
  Kp P N D (.code (.region id ops.toArray true)::k) Q .norm env s:=
 MS hm fun K E hK hE=>pL _ _ _ _ (qM (fun _ _ h=>h) hE _ _ _ _ (h K (fun x env s=>Q (.panic x) env s) hK (fun _ _ _ h=>h) hQ trivial (fun _ _ _ _=>Iff.rfl)))
end
attribute [go_sem] Int.ofNat_lt Int.ofNat_le Int.natCast_inj
inductive Stp:Prop->Prop->Prop
 |seq {P:Program} {N:Nat} {D:List Deferred} {k:List Itm} {Q:Pst} {env:Env} {s:St} {x y:Code}:Stp (Kp P N D (.code (.seq x y)::k) Q .norm env s) (Kp P N D (.code x::.code y::k) Q .norm env s)
 |blk {P:Program} {N:Nat} {D:List Deferred} {k:List Itm} {Q:Pst} {env:Env} {s:St} {id:Nat} {c:Code}:Stp (Kp P N D (.code (.block id c)::k) Q .norm env s) (Kp P N D (.code c::.blk id::k) Q .norm env s)
 |skip {P:Program} {N:Nat} {D:List Deferred} {k:List Itm} {Q:Pst} {env:Env} {s:St}:Stp (Kp P N D (.code .skip::k) Q .norm env s) (Kp P N D k Q .norm env s)
 |endb {P:Program} {N:Nat} {D:List Deferred} {k:List Itm} {Q:Pst} {env:Env} {s:St} {id:Nat}:Stp (Kp P N D (.blk id::k) Q .norm env s) (Kp P N D k Q .norm env s)
 |ret {P:Program} {N:Nat} {D:List Deferred} {k:List Itm} {Q:Pst} {env:Env} {s:St}:Stp (Kp P N D (.code .ret::k) Q .norm env s) (Q .ret env s)
 |exit {P:Program} {N:Nat} {D:List Deferred} {k:List Itm} {Q:Pst} {env:Env} {s:St} {id:Nat}:Stp (Kp P N D (.code (.exit id)::k) Q .norm env s) (Kp P N D k Q (.exit id) env s)
 |xcode {P:Program} {N:Nat} {D:List Deferred} {k:List Itm} {Q:Pst} {env:Env} {s:St} {id:Nat} {c:Code}:Stp (Kp P N D (.code c::k) Q (.exit id) env s) (Kp P N D k Q (.exit id) env s)
 |xback {P:Program} {N:Nat} {D:List Deferred} {k:List Itm} {Q:Pst} {env:Env} {s:St} {id:Nat} {I:Env->St->Prop}:Stp (Kp P N D (.back I::k) Q (.exit id) env s) (Kp P N D k Q (.exit id) env s)
 |xblk {P:Program} {N:Nat} {D:List Deferred} {k:List Itm} {Q:Pst} {env:Env} {s:St} {id:Nat}:Stp (Kp P N D (.blk id::k) Q (.exit id) env s) (Kp P N D k Q .norm env s)
 |xpast {P:Program} {N:Nat} {D:List Deferred} {k:List Itm} {Q:Pst} {env:Env} {s:St} {id j:Nat} (h:j≠id):Stp (Kp P N D (.blk id::k) Q (.exit j) env s) (Kp P N D k Q (.exit j) env s)
 |back {P:Program} {N:Nat} {D:List Deferred} {k:List Itm} {Q:Pst} {env:Env} {s:St} {I:Env->St->Prop}:Stp (Kp P N D (.back I::k) Q .norm env s) (I env s)
theorem Stp.go {p q:Prop}(h:Stp p q)(hq:q):p:=by
 cases h with
 |seq=>exact Qz hq
 |blk=>exact QB hq
 |skip=>exact MQ hq
 |endb=>exact Cg hq
 |ret=>exact QA hq
 |exit=>exact MR hq
 |xcode=>exact Mu hq
 |xback=>exact Mv hq
 |xblk=>exact Qt hq
 |xpast h=>exact Mt h hq
 |back=>exact MU hq
theorem Ctl {p q:Prop}(h:q)(hs:Stp p q:=by(with_reducible constructor)<;>decide):p:=hs.go h
theorem ac {p:Prop}(h:p:=by((try simp(disch:=first|assumption|omega) only[go_sem,seval, *])<;>first|rfl|omega)):p:=h
theorem bK {p:Prop}(h:p:=by first|((try dsimp only);(repeat(first|exact Fg.refl _|exact Fg.own (‹_›)|(refine Fg.set ?_ _ _)|(refine Fg.setA ?_ (by first|assumption|(simp(disch:=assumption) only[uV,St.set,if_false,if_true, *];done)))));done)|fail):p:=h
theorem aq {P:Program}{env:Env}{s:St}{rs rs':List ResultVar}{Q0:SEnd->St->Prop}{Q:Pst}{v:VV}(hr:rs=rs')(hQ:@Qof (Qf P rs Q0) Q)(h:∃y s',Wk v y/\Fg s s'/\Q0 (.ret y) s')
  (hv:kP P env s rs'=some v:=by(simp(disch:=first|assumption|omega) only[go_sem,seval, *]<;>rfl)):Q .ret env s:=by subst hr;exact QE hQ hv h
theorem d5 {P:Program}{N:Nat}{D:List Deferred}{env:Env}{s:St}{rs rs':List ResultVar}{Q0:SEnd->St->Prop}{Q:Pst}{v:VV}(hr:rs=rs')(hQ:@Qof (Qf P rs Q0) Q)(h:∃y s',Wk v y/\Fg s s'/\Q0 (.ret y) s')
  (hv:kP P env s rs'=some v:=by(simp(disch:=first|assumption|omega) only[go_sem,seval, *]<;>rfl)):Kp P N D [] Q .norm env s:=by subst hr;exact M5 hQ hv h
end Go.Proofs.YtohnaepcgnbaiaaGreatDoor
