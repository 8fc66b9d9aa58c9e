/- Walks of functions that the claim reaches, and plain facts of them. Conditions: those in the statements. -/
import Derived.Test.YtgdbgfjhenobdaaGreatDoorJmRun
import Derived.Test.YtgdbgfjhenobdaaGreatDoorJmDefer
set_option linter.unusedSimpArgs false
set_option linter.unusedVariables false
namespace Go.Proofs.YtgdbgfjhenobdaaGreatDoor
open Go.RowKit
def Kof {R:Env→St→Prop}(K:Env→St→Prop):Prop:=∀env s,R env s→K env s
def Eof {R:VV→Env→St→Prop}(E:VV→Env→St→Prop):Prop:=∀x env s,R x env s→E x env s
def Qof {R:Pst}(Q:Pst):Prop:=∀f env s,R f env s→Q f env s
theorem Kof.use {R:Env→St→Prop}{K:Env→St→Prop}(h:@Kof R K){env:Env}{s:St}(hr:R env s):K env s:=h _ _ hr
theorem Eof.use {R:VV→Env→St→Prop}{E:VV→Env→St→Prop}(h:@Eof R E){x:VV}{env:Env}{s:St}(hr:R x env s):E x env s:=h _ _ _ hr
def dOk (keep:List Nat):Option Tmp→Bool
 |some t=>!keep.contains t
 |none=>true
def EOk (N:Nat)(keep:List Nat)(E:VV→Env→St→Prop):Prop:=∀x env s d y,dOk keep d=true→E x (put N env d y) s→E x env s
section
variable {P : Program} {N : Nat} {D : List Deferred} {k : List Itm} {Q : Pst} {env : Env} {s : St}
theorem G_enter {f:FuncId}{fn:Func}{c:Code}{xs:List VV}{s:St}{Q0:SEnd→St→Prop}(hf:P.funcs[f]?=some fn)(hb:fn.body=some c)(hN:fn.ntmps=N)(hl:Nat.ble xs.length N=true)
  (h:∀Q:Pst,@Qof (Qf P fn.results.toList Q0) Q→EOk N [] (fun x=>Q (.panic x))→Kp P N [] [.code c] Q .norm (env0 xs) s):SCalls P f xs s Q0:=
 S_enter hf hb hN hl (h _ (fun _ _ _ h=>h) (fun _ _ _ _ _ _ h=>h))
theorem G_region {id:Nat}{ops:List Oper}(h:∀(K:Env→St→Prop) (E:VV→Env→St→Prop),@Kof (Kp P N D k Q .norm) K→@Eof (fun x=>Q (.panic x)) E→vops P N ops K E ops env s) :
  Kp P N D (.code (.region id ops.toArray false)::k) Q .norm env s:=L_region h
theorem G_cond {c:Operand}{x y:Code}{b:Bool}(hb:rd env c=.bool b)(h1:b=true→Kp P N D (.code x::k) Q .norm env s)(h2:b=false→Kp P N D (.code y::k) Q .norm env s) :
  Kp P N D (.code (.cond c x y)::k) Q .norm env s:=by
 refine L_cond ?_
 rw[hb]
 cases b with
 |true=>rw[vcond_true];exact h1 rfl
 |false=>rw[vcond_false];exact h2 rfl
theorem G_ret {rs:List ResultVar}{Q0:SEnd→St→Prop}{Q:Pst}{v:VV}(hQ:@Qof (Qf P rs Q0) Q)(hv:vres P env s rs=some v)(h:∃y s',Wk v y∧Fg s s'∧Q0 (.ret y) s'):Q .ret env s:=
 hQ _ _ _ ⟨v,hv,h⟩
theorem G_norm {rs:List ResultVar}{Q0:SEnd→St→Prop}{Q:Pst}{v:VV}(hQ:@Qof (Qf P rs Q0) Q)(hv:vres P env s rs=some v)(h:∃y s',Wk v y∧Fg s s'∧Q0 (.ret y) s'):Kp P N D [] Q .norm env s:=
 hQ _ _ _ ⟨v,hv,h⟩
theorem G_pan {rs:List ResultVar}{Q0:SEnd→St→Prop}{Q:Pst}{x:VV}(hQ:@Qof (Qf P rs Q0) Q)(h:∃s',Fg s s'∧Q0 (.panic x) s'):Q (.panic x) env s:=
 hQ _ _ _ h
theorem Wk.of_eq {x y:VV}(h:x=y):Wk x y:=h ▸ Wk.refl x
variable {all rest : List Oper} {K : Env → St → Prop} {E : VV → Env → St → Prop}
theorem G_gd {b want:Bool}{d:Option Tmp}{op:Op}{ty:TypeId}{p:String}{af:Array Edge}
  (h1:b=true→vgd P N all K E (.bool true) want d op ty p af rest env s) (h2:b=false→vgd P N all K E (.bool false) want d op ty p af rest env s) :
  vgd P N all K E (.bool b) want d op ty p af rest env s:=by cases b with|true=>exact h1 rfl|false=>exact h2 rfl
theorem G_if {d:Option Tmp}{c:Prop}[Decidable c]{x:Option VV}(h:c)(h2:vput P N all K E d rest env s x):vput P N all K E d rest env s (if c then x else none):=by rw[if_pos h];exact h2
theorem G_ifS {d:Option Tmp}{c:Prop}[Decidable c]{x:Option St}(h:c)(h2:vputS P N all K E d rest env x):vputS P N all K E d rest env (if c then x else none):=by rw[if_pos h];exact h2
theorem call_ex {d:Option Tmp}{f:FuncId}{xs:List VV}{α:Sort _}{F:α→VV}{S:α→St}{R:α→Prop}(hc:Callable P f)(h:SCalls P f xs s fun e t=>∃a,e=.ret (F a)∧t=S a∧R a)
  (hr:∀a,R a→vops P N all K E rest (put N env d (F a)) (S a)):vcall2 P N all K E d rest env s f xs:=
 ⟨_,.inl ⟨hc,h⟩,fun x t q=>by obtain⟨a,e,e',r⟩:=q;injection e with e;subst e;subst e';exact hr a r,(fun x t q=>by obtain⟨a,e,_⟩:=q;cases e)⟩
end
theorem set_free_o {s:St}{r b:Nat}{T:TypeId}{xs:List VV}:((s.set r (.obj T xs)) b=.free)=(¬ b=r∧¬ r=b∧s b=.free):=by
 apply propext
 simp only[St.set]
 constructor
 ·intro h
  split at h
  ·cases h
  ·rename_i hn;exact⟨hn,fun e=>hn e.symm,h⟩
 ·rintro⟨h1,_,h2⟩;rw[if_neg h1];exact h2
theorem set_free_v {s:St}{r b:Nat}{T:TypeId}{z n:Nat}:((s.set r (.vec T z n)) b=.free)=(¬ b=r∧¬ r=b∧s b=.free):=by
 apply propext
 simp only[St.set]
 constructor
 ·intro h
  split at h
  ·cases h
  ·rename_i hn;exact⟨hn,fun e=>hn e.symm,h⟩
 ·rintro⟨h1,_,h2⟩;rw[if_neg h1];exact h2
theorem set_free_m {s:St}{r b:Nat}{es:List (VV×VV)}:((s.set r (.map es)) b=.free)=(¬ b=r∧¬ r=b∧s b=.free):=by
 apply propext
 simp only[St.set]
 constructor
 ·intro h
  split at h
  ·cases h
  ·rename_i hn;exact⟨hn,fun e=>hn e.symm,h⟩
 ·rintro⟨h1,_,h2⟩;rw[if_neg h1];exact h2
theorem ite_free_o {x:Cell}{r b:Nat}{T:TypeId}{xs:List VV}:((if b=r then Cell.obj T xs else x)=.free)=(¬ b=r∧¬ r=b∧x=.free):=by
 have:=set_free_o (s:=fun _=>x) (r:=r) (b:=b) (T:=T) (xs:=xs)
 exact this
theorem ite_free_v {x:Cell}{r b:Nat}{T:TypeId}{z n:Nat}:((if b=r then Cell.vec T z n else x)=.free)=(¬ b=r∧¬ r=b∧x=.free):=by
 have:=set_free_v (s:=fun _=>x) (r:=r) (b:=b) (T:=T) (z:=z) (n:=n)
 exact this
theorem ite_free_m {x:Cell}{r b:Nat}{es:List (VV×VV)}:((if b=r then Cell.map es else x)=.free)=(¬ b=r∧¬ r=b∧x=.free):=by
 have:=set_free_m (s:=fun _=>x) (r:=r) (b:=b) (es:=es)
 exact this
theorem set_free_p {s:St}{r b:Nat}{T:TypeId}{xs:List VV}{rs:List (Nat×TypeId×Nat)}:((s.set r (.pk T xs rs)) b=.free)=(¬ b=r∧¬ r=b∧s b=.free):=by
 apply propext
 simp only[St.set]
 constructor
 ·intro h
  split at h
  ·cases h
  ·rename_i hn;exact⟨hn,fun e=>hn e.symm,h⟩
 ·rintro⟨h1,_,h2⟩;rw[if_neg h1];exact h2
theorem ite_free_p {x:Cell}{r b:Nat}{T:TypeId}{xs:List VV}{rs:List (Nat×TypeId×Nat)}:((if b=r then Cell.pk T xs rs else x)=.free)=(¬ b=r∧¬ r=b∧x=.free):=by
 have:=set_free_p (s:=fun _=>x) (r:=r) (b:=b) (T:=T) (xs:=xs) (rs:=rs)
 exact this
theorem set_free_r {s:St}{r b:Nat}{T:TypeId}{sz:Nat}{xs:List VV}:((s.set r (.row T sz xs)) b=.free)=(¬ b=r∧¬ r=b∧s b=.free):=by
 apply propext
 simp only[St.set]
 constructor
 ·intro h
  split at h
  ·cases h
  ·rename_i hn;exact⟨hn,fun e=>hn e.symm,h⟩
 ·rintro⟨h1,_,h2⟩;rw[if_neg h1];exact h2
theorem ite_free_r {x:Cell}{r b:Nat}{T:TypeId}{sz:Nat}{xs:List VV}:((if b=r then Cell.row T sz xs else x)=.free)=(¬ b=r∧¬ r=b∧x=.free):=by
 have:=set_free_r (s:=fun _=>x) (r:=r) (b:=b) (T:=T) (sz:=sz) (xs:=xs)
 exact this
theorem nef {s:St}{a b:Nat}(hb:s b=.free)(ha:s a≠.free):¬ a=b∧¬ b=a:=⟨fun e=>ha (e ▸ hb),fun e=>ha (e ▸ hb)⟩
theorem set_under {s:St}{a b:Nat}{c d e:Cell}(h:¬ b=a):((s.set a c).set b d).set a e=(s.set a e).set b d:=by
 funext x
 simp only[St.set]
 by_cases h1:x=a
 ·subst h1;simp[Ne.symm h]
 ·simp[h1]
theorem set_under2 {s:St}{a b b2:Nat}{c d d2 e:Cell}(h:¬ b=a)(h2:¬ b2=a):(((s.set a c).set b d).set b2 d2).set a e=((s.set a e).set b d).set b2 d2:=by
 funext x
 simp only[St.set]
 by_cases h1:x=a
 ·subst h1;simp[Ne.symm h,Ne.symm h2]
 ·simp[h1]
theorem nn_cast (n:Nat):(0≤(n:Int))=True:=eq_true (Int.natCast_nonneg n)
theorem cast1 (n:Nat):(n:Int)+1=((n+1:Nat):Int):=rfl
theorem cast2 (n:Nat):(n:Int)+2=((n+2:Nat):Int):=rfl
theorem castA (n m:Nat):(n:Int)+(m:Int)=((n+m:Nat):Int):=rfl
theorem castS (n:Nat):((n+1:Nat):Int) - 1=(n:Int):=by omega
attribute [go_sem] castS nn_cast cast1 cast2 castA
def St.disown (s:St)(o:Own):St:=
 match o with
 |.at_ b=>s.set b .free
 |_=>s
def NotOwn (o:Own)(x:Nat):Prop:=
 match o with
 |.at_ b=>¬ x=b
 |_=>True
def Owned (s:St)(o:Own)(T:TypeId)(sz n:Nat):Prop:=
 match o with
 |.no=>False
 |.full=>n=0
 |.at_ b=>s b=.vec T sz n
section
variable {s : St} {o o' : Own} {T T' : TypeId} {sz n m b sz' : Nat} {c : Cell}
theorem own_fr:((s.own o T sz n) b=.free)=(NotOwn o b∧s b=.free):=by
 apply propext
 cases o with
 |at_ x=>
  simp only[St.own,St.set,NotOwn]
  by_cases h:b=x<;>simp[h]
 |_=>simp[St.own,NotOwn]
theorem own_rd (h:NotOwn o b):(s.own o T sz n) b=s b:=by
 cases o with
 |at_ x=>simp only[NotOwn]at h;simp[St.own,St.set,h]
 |_=>rfl
theorem own_push (h:NotOwn o b):(s.set b c).own o T sz n=(s.own o T sz n).set b c:=by
 cases o with
 |at_ x=>
  simp only[NotOwn]at h
  funext y
  simp only[St.own,St.set]
  by_cases h1:y=x
  ·subst h1;simp[Ne.symm h]
  ·simp[h1]
 |_=>rfl
theorem disown_set (h:NotOwn o b):(s.set b c).disown o=(s.disown o).set b c:=by
 cases o with
 |at_ x=>
  simp only[NotOwn]at h
  funext y
  simp only[St.disown,St.set]
  by_cases h1:y=x
  ·subst h1;simp[Ne.symm h]
  ·simp[h1]
 |_=>rfl
theorem disown_own (h:OwnOk s o m):(s.own o T sz n).disown o=s:=by
 cases o with
 |at_ x=>
  simp only[OwnOk]at h
  funext y
  simp only[St.own,St.disown,St.set]
  by_cases h1:y=x
  ·subst h1;simp[h]
  ·simp[h1]
 |_=>rfl
theorem disown_other {o2:Own}(h:OwnOk (s.own o2 T sz n) o m)(h2:OwnOk s o2 n):((s.own o2 T sz n).own o T' sz' m).disown o2=s.own o T' sz' m:=by
 cases o with
 |at_ x=>
  simp only[OwnOk,own_fr]at h
  cases o2 with
  |at_ y=>
   simp only[OwnOk,NotOwn]at h2 h
   funext z
   simp only[St.own,St.disown,St.set]
   by_cases h1:z=y
   ·subst h1;simp[Ne.symm h.1,h2]
   ·simp[h1]
  |_=>rfl
 |full=>cases o2<;>first|rfl|exact disown_own h2
 |no=>exact h.elim
theorem owned_set (h:NotOwn o b):Owned (s.set b c) o T sz n=Owned s o T sz n:=by
 cases o with
 |at_ x=>
  simp only[NotOwn]at h
  simp[Owned,St.set,Ne.symm h]
 |_=>rfl
theorem owned_own (h:OwnOk s o n):Owned (s.own o T sz n) o T sz n=True:=by
 apply eq_true
 cases o with
 |no=>exact h
 |full=>exact h
 |at_ b=>simp[Owned,St.own,St.set]
theorem ownok_o {xs:List VV}:OwnOk (s.set b (.obj T xs)) o n=(NotOwn o b∧OwnOk s o n):=by
 cases o with
 |at_ x=>simp only[OwnOk,NotOwn,set_free_o];apply propext;constructor<;>(rintro⟨h1,h2⟩;grind)
 |_=>simp[OwnOk,NotOwn]
theorem ownok_m {es:List (VV×VV)}:OwnOk (s.set b (.map es)) o n=(NotOwn o b∧OwnOk s o n):=by
 cases o with
 |at_ x=>simp only[OwnOk,NotOwn,set_free_m];apply propext;constructor<;>(rintro⟨h1,h2⟩;grind)
 |_=>simp[OwnOk,NotOwn]
theorem ownok_nil:OwnOk s .full 0:=rfl
theorem OwnOk.not (h:OwnOk s o n)(hb:s b≠.free):NotOwn o b:=by
 cases o with
 |at_ x=>rintro rfl;exact hb h
 |_=>trivial
theorem own_full:s.own .full T sz n=s:=rfl
theorem append_gen {k:VV→St→Prop}{e:TypeId}{q:QI}{xs ys:List (List VV)}(n m:Nat)(hn:xs.length=n)(hys:ys.length=m)(ho:Owned s o e q.sz n)(hb:(n+m) * q.bt≤140737488355328)(hm:n+m≤9223372036854775807)
  (hy:∀y,y∈ys→y.length=q.sz) (hz:q.zok=true)
  (h:∀o',OwnOk (s.disown o) o' (n+m)→k (.lst (xs++ys) o') ((s.disown o).own o' e q.sz (n+m))):vappend k e q xs ys o s:=by
 subst hn
 subst hys
 refine⟨hb,hm,hy,hz,?_⟩
 cases o with
 |no=>exact ho.elim
 |full=>
  have hx:xs=[]:=List.eq_nil_of_length_eq_zero ho
  subst hx
  refine⟨by simp,fun e=>?_,fun _ b hb=>?_⟩
  ·subst e;exact h .full rfl
  ·exact h (.at_ b) hb
 |at_ b=>
  refine⟨ho,fun b' hb'=>?_⟩
  have:=h (.at_ b') (by
   simp only[OwnOk,St.disown,St.set]
   rcases hb' with rfl|hb'
   ·simp
   ·simp[hb'])
  exact this
end
theorem Fg.setA {s1 s:St}(h:Fg s1 s){b:Nat}{c:Cell}(hb:s b=.free):Fg (s1.set b c) s:=fun x=>by
 by_cases hx:x=b
 ·subst hx;exact .inl hb
 ·rw[St.set_other _ _ hx];exact h x
attribute [go_sem] own_fr own_rd own_push disown_set disown_own owned_set owned_own own_full
theorem G_loop {P:Program}{N:Nat}{D:List Deferred}{k:List Itm}{Q:Pst}{env:Env}{s:St}{c:Code}(I:Nat→Env→St→Prop)(n:Nat)(h0:∃s0,Fg s s0∧I n env s0)
  (hr:∀n env s,I n env s→Kp P N D (.code c::.back (fun env' s'=>∃s'',Fg s' s''∧∃m,m<n∧I m env' s'')::k) Q .norm env s) :
  Kp P N D (.code (.loop c)::k) Q .norm env s:=by
 obtain⟨s0,hf,h0⟩:=h0
 refine Kp_forget hf ?_
 refine L_loop (fun n env s'=>∃s'',Fg s' s''∧I n env s'') n ⟨s0,Fg.refl _,h0⟩ ?_
 rintro n env s' ⟨s'',hf,hI⟩
 refine Kp_forget hf ?_
 refine Kp_back_mono ?_ (hr n env s'' hI)
 rintro env s ⟨s3,h1,m,hm,h2⟩
 exact⟨m,hm,s3,h1,h2⟩
attribute [go_sem] St.set_set set_under set_under2
section
variable {P : Program} {N : Nat} {all : List Oper}
def vAnyI (P:Program)(N:Nat)(all:List Oper)(I:Array Bool→St→Prop)(K:Env→St→Prop)(E:VV→Env→St→Prop):Nat→Array Bool→Env→St→Prop
 |0,listed,env,s=>Region.ready .any all.toArray listed=[]∧K env s
 |f+1,listed,env,s=>(Region.ready .any all.toArray listed=[]→K env s) ∧
   ∀i∈Region.ready .any all.toArray listed,vopi P N all E i (fun env s=>I (listed.setIfInBounds i true) s∧vAnyI P N all I K E f (listed.setIfInBounds i true) env s) env s
theorem vAny_of_I {I:Array Bool→St→Prop}{K:Env→St→Prop}{E:VV→Env→St→Prop}:∀(f:Nat) (listed:Array Bool) (env:Env) (s:St),vAnyI P N all I K E f listed env s→vAny P N all K E f listed env s
 |0,_,_,_,h=>h
 |f+1,_,_,_,h=>⟨h.1,fun i hi=>vopi_mono (fun e s h=>vAny_of_I f _ e s h.2) (h.2 i hi)⟩
theorem vAnyI_weak {I J:Array Bool→St→Prop}{K:Env→St→Prop}{E:VV→Env→St→Prop}(hw:∀l s,I l s→J l s):∀(f:Nat) (listed:Array Bool) (env:Env) (s:St),vAnyI P N all I K E f listed env s→vAnyI P N all J K E f listed env s
 |0,_,_,_,h=>h
 |f+1,_,_,_,h=>⟨h.1,fun i hi=>vopi_mono (fun e s h=>⟨hw _ _ h.1,vAnyI_weak hw f _ e s h.2⟩) (h.2 i hi)⟩
def headOp (p:String):Op→Bool
 |.move _|.assign _|.pick ..|.build ..|.load ..|.lookup ..|.nilCheck _|.unOp ..|.field ..|.fieldAddr ..|.index ..|.indexAddr ..|.slice ..|.makeInterface ..|.makeFunc ..|.extract ..|.binOp ..|.typeAssert ..=>true
 |.call c=>match c.callee with|.builtin .len=>true|.builtin .min=>true|.builtin .max=>true|_=>false
 |.buildSlice T ..=>!mutL T p
 |.convert ..=>true
 |_=>false
def heldO (P:Program)(env:Env)(s:St)(op:Op)(s':St):Prop:=
 match op with
 |.load T a=>vload (qi P T) (rd env a) s'=vload (qi P T) (rd env a) s
 |.lookup T m k ok=>vlookup (qi P T) (qi P (elemT (qi P T))) (qi P (keyT (qi P T))) (rd env m) (rd env k) ok s'=vlookup (qi P T) (qi P (elemT (qi P T))) (qi P (keyT (qi P T))) (rd env m) (rd env k) ok s
 |.convert src dst x=>vconv P src dst (rd env x) s'=vconv P src dst (rd env x) s
 |.call c=>match c.callee with
  |.builtin .len=>match c.args.toList,c.argTypes.toList with|[x],[T]=>vlen (qi P T) (rd env x) s'=vlen (qi P T) (rd env x) s|_,_=>True
  |_=>True
 |_=>True
def heldB (v:VV)(w:Bool)(p:Prop):Prop:=match v with|.bool b=>if b=w then p else True|_=>True
def heldG (P:Program)(all:List Oper)(env:Env)(s:St)(o:Oper)(s':St):Prop:=
 match o.guard with
 |none=>heldO P env s o.op s'
 |some (j,w)=>heldB (yv all env j) w (heldO P env s o.op s')
def heldL (P:Program)(all:List Oper)(env:Env)(s:St):List Oper→St→Prop
 |[],_=>True
 |o::r,s'=>heldG P all env s o s'∧heldL P all env s r s'
theorem vstep_head {o:Oper}{E:VV→Env→St→Prop}{rest:Env→St→Prop}{env:Env}{s:St}(hh:headOp o.pos o.op=true)(h:vstep P N E o rest env s) :
  ∃y,rest (put N env o.dst y) s∧∀s',heldO P env s o.op s'→∀(E':VV→Env→St→Prop) (rest':Env→St→Prop),rest' (put N env o.dst y) s'→vstep P N E' o rest' env s':=by
 obtain⟨d,op,ty,p,af,g⟩:=o
 have opt:∀(z:Option VV),optB (fun x=>rest (put N env d x) s) z→∃y,z=some y∧rest (put N env d y) s:=fun z hz=>by
  cases z with
  |none=>exact hz.elim
  |some y=>exact⟨y,rfl,hz⟩
 simp only at hh ⊢
 cases op<;>first|(cases hh;done)|skip
 case move x=>exact⟨_,h,fun s' _ E' r hr=>hr⟩
 case assign x=>exact⟨_,h,fun s' _ E' r hr=>hr⟩
 case pick c a b=>
  simp only[vstep]at h ⊢
  split at h
  ·rename_i t hc
   exact⟨_,h,fun s' _ E' r hr=>hr⟩
  ·exact h.elim
 case build T parts=>
  simp only[vstep]at h ⊢
  obtain⟨h1,h2,h3⟩:=h
  cases hv:vfill P T (qi P T).z (parts.toList.map fun p=>(p.1,rd env p.2))with
  |none=>rw[hv]at h3;exact h3.elim
  |some cs=>rw[hv]at h3;exact⟨_,h3,fun s' _ E' r hr=>⟨h1,h2,hr⟩⟩
 case buildSlice T n parts=>
  have hmu:¬ mutL T p=true:=by simpa [headOp]using hh
  simp only[vstep,if_neg hmu]at h ⊢
  obtain⟨h1,h2,h3,h4,h6⟩:=h
  cases hv:vrow (qi P (elemT (qi P T))).sz 0 (parts.toList.map fun p=>(p.1,rd env p.2))with
  |none=>rw[hv]at h6;exact h6.elim
  |some cs=>rw[hv]at h6;exact⟨_,h6,fun s' _ E' r hr=>⟨h1,h2,h3,h4,hr⟩⟩
 case load T a=>
  simp only[vstep]at h ⊢
  obtain⟨y,hy,hr⟩:=opt _ h
  exact⟨y,hr,fun s' hs E' r hr=>by simp only[heldO]at hs;rw[hs,hy];exact hr⟩
 case convert src dst x=>
  simp only[vstep]at h ⊢
  obtain⟨y,hy,hr⟩:=opt _ h
  exact⟨y,hr,fun s' hs E' r hr=>by simp only[heldO]at hs;rw[hs,hy];exact hr⟩
 case nilCheck x=>
  simp only[vstep]at h ⊢
  exact⟨_,h.2,fun s' _ E' r hr=>⟨h.1,hr⟩⟩
 case binOp op T x y yt=>
  simp only[vstep]at h ⊢
  split at h
  ·rename_i k a k' b ha hb
   obtain⟨y,hy,hr⟩:=opt _ h.2
   exact⟨y,hr,fun s' _ E' r hr=>⟨h.1,by rw[hy];exact hr⟩⟩
  ·split at h
   ·exact⟨_,h.2,fun s' _ E' r hr=>⟨h.1,hr⟩⟩
   ·exact⟨_,h,fun s' _ E' r hr=>hr⟩
   ·exact⟨_,h,fun s' _ E' r hr=>hr⟩
   ·exact h.elim
  ·obtain⟨h0,h⟩:=h
   split at h
   ·exact⟨_,h,fun s' _ E' r hr=>⟨h0,hr⟩⟩
   ·exact⟨_,h,fun s' _ E' r hr=>⟨h0,hr⟩⟩
   ·exact h.elim
  ·obtain⟨h0,h1,h2,h⟩:=h
   split at h
   ·exact⟨_,h,fun s' _ E' r hr=>⟨h0,h1,h2,hr⟩⟩
   ·exact⟨_,h,fun s' _ E' r hr=>⟨h0,h1,h2,hr⟩⟩
   ·exact h.elim
  ·rename_i us vs _ _
   split at h
   ·cases hv:vagq P T us vs with
    |none=>rw[hv]at h;exact h.elim
    |some b=>rw[hv]at h;exact⟨_,h,fun s' _ E' r hr=>hr⟩
   ·cases hv:vagq P T us vs with
    |none=>rw[hv]at h;exact h.elim
    |some b=>rw[hv]at h;exact⟨_,h,fun s' _ E' r hr=>hr⟩
   ·exact h.elim
  ·obtain⟨h0,h⟩:=h
   split at h
   ·cases hv:nilB (qi P T).k (rd env x) (rd env y)with
    |none=>rw[hv]at h;exact h.elim
    |some b=>rw[hv]at h;exact⟨_,h,fun s' _ E' r hr=>⟨h0,hr⟩⟩
   ·cases hv:nilB (qi P T).k (rd env x) (rd env y)with
    |none=>rw[hv]at h;exact h.elim
    |some b=>rw[hv]at h;exact⟨_,h,fun s' _ E' r hr=>⟨h0,hr⟩⟩
   ·exact h.elim
 case unOp op T x=>
  simp only[vstep]at h ⊢
  split at h
  ·exact⟨_,h,fun s' _ E' r hr=>hr⟩
  ·exact⟨_,h,fun s' _ E' r hr=>hr⟩
  ·exact h.elim
 case makeInterface T x=>
  simp only[vstep]at h ⊢
  exact⟨_,h.2,fun s' _ E' r hr=>⟨h.1,hr⟩⟩
 case makeFunc fn fs caps=>
  cases fn with
  |func f=>
   simp only[vstep]at h ⊢
   exact⟨_,h.2,fun s' _ E' r hr=>⟨h.1,hr⟩⟩
  |_=>exact h.elim
 case slice T x lo hi mx=>
  simp only[vstep]at h ⊢
  obtain⟨y,hy,hr⟩:=opt _ h.2
  exact⟨y,hr,fun s' _ E' r hr=>⟨h.1,by rw[hy];exact hr⟩⟩
 case fieldAddr T x j=>
  simp only[vstep]at h ⊢
  split at h
  ·exact⟨_,h.2,fun s' _ E' r hr=>⟨h.1,hr⟩⟩
  ·exact⟨_,h,fun s' _ E' r hr=>hr⟩
  ·exact h.elim
 case field T x j=>
  simp only[vstep]at h ⊢
  split at h
  ·obtain⟨y,hy,hr⟩:=opt _ h
   exact⟨y,hr,fun s' _ E' r hr=>by rw[hy];exact hr⟩
  ·exact h.elim
 case indexAddr T x i=>
  simp only[vstep]at h ⊢
  obtain⟨y,hy,hr⟩:=opt _ h
  exact⟨y,hr,fun s' _ E' r hr=>by rw[hy];exact hr⟩
 case index T x i=>
  simp only[vstep]at h ⊢
  obtain⟨y,hy,hr⟩:=opt _ h
  exact⟨y,hr,fun s' _ E' r hr=>by rw[hy];exact hr⟩
 case lookup T m k ok=>
  simp only[vstep]at h ⊢
  obtain⟨y,hy,hr⟩:=opt _ h
  exact⟨y,hr,fun s' hs E' r hr=>by simp only[heldO]at hs;rw[hs,hy];exact hr⟩
 case typeAssert x xt T ok=>
  simp only[vstep]at h ⊢
  obtain⟨h1,h2,h3⟩:=h
  split at h3
  ·exact⟨_,h3.2,fun s' _ E' r hr=>⟨h1,h2,h3.1,hr⟩⟩
  ·exact h3.elim
 case extract t i=>
  simp only[vstep]at h ⊢
  split at h
  ·obtain⟨y,hy,hr⟩:=opt _ h
   exact⟨y,hr,fun s' _ E' r hr=>by rw[hy];exact hr⟩
  ·exact h.elim
 case call c=>
  obtain⟨cal,args,ts⟩:=c
  cases cal with
  |value f=>cases hh
  |invoke r m=>cases hh
  |builtin b=>
   cases b<;>first|(cases hh;done)|skip
   case len=>
    simp only[vstep]at h ⊢
    split at h
    ·rename_i x T hx hT
     obtain⟨y,hy,hr⟩:=opt _ h
     exact⟨y,hr,fun s' hs E' r hr=>by simp only[heldO,hx,hT]at hs;rw[hs,hy];exact hr⟩
    ·exact h.elim
   case min=>
    simp only[vstep]at h ⊢
    split at h
    ·obtain⟨y,hy,hr⟩:=opt _ h
     exact⟨y,hr,fun s' _ E' r hr=>by rw[hy];exact hr⟩
    ·exact h.elim
   case max=>
    simp only[vstep]at h ⊢
    split at h
    ·obtain⟨y,hy,hr⟩:=opt _ h
     exact⟨y,hr,fun s' _ E' r hr=>by rw[hy];exact hr⟩
    ·exact h.elim
theorem vgone_head {o:Oper}{E:VV→Env→St→Prop}{rest:Env→St→Prop}{env:Env}{s:St}(hh:headOp o.pos o.op=true)(h:vgone P N all E o rest env s) :
  ∃y,rest (put N env o.dst y) s∧∀s',heldG P all env s o s'→YV P N all s' o y env:=by
 unfold vgone at h
 unfold heldG YV vgone
 cases hg:o.guard with
 |none=>
  rw[hg]at h
  obtain⟨y,h1,h2⟩:=vstep_head hh h
  exact⟨y,h1,fun s' hs K hK=>h2 s' hs _ _ hK⟩
 |some g=>
  obtain⟨j,w⟩:=g
  rw[hg]at h
  simp only at h ⊢
  unfold vguard at h
  split at h
  ·rename_i b hb
   rw[hb]
   simp only[heldB,vguard]
   split at h
   ·rename_i hbw
    obtain⟨y,h1,h2⟩:=vstep_head hh h
    refine⟨y,h1,fun s' hs K hK=>?_⟩
    rw[if_pos hbw]at hs ⊢
    exact h2 s' hs _ _ hK
   ·rename_i hbw
    refine⟨.tup [],h,fun s' hs K hK=>?_⟩
    rw[if_neg hbw]
    exact hK
  ·rename_i xs hb
   refine⟨.tup [],h,fun s' hs K hK=>?_⟩
   rw[hb]
   exact hK
  ·exact h.elim
theorem heldO_congr {op:Op}{env env':Env}{s s':St}(hx:∀x∈op.operands.toList,rd env' x=rd env x)(h:heldO P env s op s'):heldO P env' s op s':=by
 cases op<;>first|trivial|skip
 case load T a=>
  have:=hx a (by simp[Op.operands])
  simp only[heldO,this]at h ⊢;exact h
 case convert src dst x=>
  have:=hx x (by simp[Op.operands])
  simp only[heldO,this]at h ⊢;exact h
 case lookup T m k ok=>
  have h1:=hx m (by simp[Op.operands])
  have h2:=hx k (by simp[Op.operands])
  simp only[heldO,h1,h2]at h ⊢;exact h
 case call c=>
  obtain⟨cal,args,ts⟩:=c
  cases cal<;>first|trivial|skip
  rename_i b
  cases b<;>first|trivial|skip
  case len=>
   simp only[heldO]at h ⊢
   split at h
   ·rename_i x T ha hT
    have h1:=hx x (by simp[Op.operands,Call.operands,ha])
    simp only[h1];exact h
   ·trivial
theorem heldG_congr {o:Oper}{env env':Env}{s s':St}(hx:∀x∈o.op.operands.toList,rd env' x=rd env x)(hg:∀j b,o.guard=some (j,b)→yv all env' j=yv all env j)(h:heldG P all env s o s'):heldG P all env' s o s':=by
 unfold heldG at *
 cases ho:o.guard with
 |none=>rw[ho]at h;exact heldO_congr hx h
 |some g=>
  obtain⟨j,w⟩:=g
  rw[ho]at h
  simp only at h ⊢
  rw[hg j w ho]
  unfold heldB at *
  cases hy:yv all env j<;>rw[hy]at h<;>first|trivial|skip
  rename_i b
  simp only at h ⊢
  by_cases hb:b=w
  ·rw[if_pos hb]at h ⊢;exact heldO_congr hx h
  ·rw[if_neg hb];trivial
def headAt (all:List Oper)(k:Nat):Bool:=match all[k]? with|some o=>headOp o.pos o.op|none=>false
def waitsT (all:List Oper):Nat→Nat→Nat→Bool
 |0,_,_=>false
 |n+1,j,k=>match all[j]? with|some o=>o.after.any fun e=>Region.binds .any e && (e.on == k || waitsT all n e.on k)|none=>false
def freeOf (all:List Oper)(k:Nat)(l:Array Bool):Bool:=(List.range all.length).all fun j=>!(l.getD j false) || headAt all j || !waitsT all all.length j k
def closedB (all:List Oper)(l:Array Bool):Bool:=(List.range all.length).all fun i=>!(l.getD i false) || (match all[i]? with|some o=>o.after.all (fun e=>!Region.binds .any e || l.getD e.on false)|none=>true)
theorem closed_spec {l:Array Bool}(h:closedB all l=true){i:Nat}{o:Oper}(hi:all[i]?=some o)(hl:l.getD i false=true):∀e∈o.after,Region.binds .any e=true→l.getD e.on false=true:=by
 intro e he hb
 have hlt:i<all.length:=(List.getElem?_eq_some_iff.1 hi).1
 have:=List.all_eq_true.1 h i (List.mem_range.2 hlt)
 simp only[hl,hi,Bool.not_true,Bool.false_or,Array.all_eq_true_iff_forall_mem]at this
 simpa [hb]using this e he
theorem closed_waits {l:Array Bool}(h:closedB all l=true){k:Nat}:∀(n j:Nat),(∀o,all[j]?=some o→∀e∈o.after,Region.binds .any e=true→l.getD e.on false=true)→waitsT all n j k=true→l.getD k false=true
 |0,_,_,hw=>by cases hw
 |n+1,j,hp,hw=>by
  unfold waitsT at hw
  cases hj:all[j]? with
  |none=>rw[hj]at hw;cases hw
  |some o=>
   rw[hj]at hw
   simp only[Array.any_eq_true']at hw
   obtain⟨e,he,hw⟩:=hw
   simp only[Bool.and_eq_true,Bool.or_eq_true,beq_iff_eq]at hw
   obtain⟨hb,hw⟩:=hw
   have hl:=hp o hj e he hb
   rcases hw with rfl|hw
   ·exact hl
   ·exact closed_waits h n e.on (fun o' ho'=>closed_spec h ho' hl) hw
theorem getD_set {l:Array Bool}{i j:Nat}{d:Bool}(h:l.getD j d=true∨(l.setIfInBounds i true).getD j d=true)(hne:j≠i):l.getD j d=true:=by
 rcases h with h|h
 ·exact h
 ·rwa [getD_set_ne d (Ne.symm hne)]at h
theorem closed_set {l:Array Bool}(h:closedB all l=true){j:Nat}(hr:j∈Region.ready .any all.toArray l):closedB all (l.setIfInBounds j true)=true:=by
 obtain⟨_,oj,hoj,hall⟩:=mem_ready.1 hr
 have hoj':all[j]?=some oj:=by simpa using hoj
 have up:∀x,l.getD x false=true→(l.setIfInBounds j true).getD x false=true:=fun x hx=>by
  by_cases hxj:x=j
  ·subst hxj
   have:x<l.size:=by
    rcases Nat.lt_or_ge x l.size with h|h
    ·exact h
    ·simp[Array.getD,Nat.not_lt.2 h]at hx
   simp[Array.getD,this]
  ·rwa [getD_set_ne false (Ne.symm hxj)]
 refine List.all_eq_true.2 fun i hi=>?_
 cases hl:(l.setIfInBounds j true).getD i false with
 |false=>rfl
 |true=>
  simp only[Bool.not_true,Bool.false_or]
  cases ho:all[i]? with
  |none=>rfl
  |some o=>
   simp only[Array.all_eq_true_iff_forall_mem]
   intro e he
   cases hb:Region.binds .any e with
   |false=>rfl
   |true=>
    simp only[Bool.not_true,Bool.false_or]
    by_cases hij:i=j
    ·subst hij
     rw[hoj']at ho
     injection ho with ho
     subst ho
     exact up _ (hall e he hb)
    ·exact up _ (closed_spec h ho (getD_set (.inr hl) hij) e he hb)
theorem freeOf_closed {l:Array Bool}(h:closedB all l=true){k:Nat}(hk:l.getD k false=false):freeOf all k l=true:=by
 refine List.all_eq_true.2 fun j hj=>?_
 cases hl:l.getD j false with
 |false=>rfl
 |true=>
  cases hw:waitsT all all.length j k with
  |false=>simp
  |true=>
   have:=closed_waits h all.length j (fun o ho=>closed_spec h ho hl) hw
   rw[this]at hk;cases hk
theorem freeOf_set {l:Array Bool}{k k':Nat}(hh:headAt all k'=true):freeOf all k (l.setIfInBounds k' true)=freeOf all k l:=by
 have e:∀j,(!((l.setIfInBounds k' true).getD j false) || headAt all j || !waitsT all all.length j k)=(!(l.getD j false) || headAt all j || !waitsT all all.length j k):=fun j=>by
  by_cases hj:j=k'
  ·subst hj;rw[hh];simp
  ·rw[getD_set_ne false (Ne.symm hj)]
 unfold freeOf
 simp only[e]
def HM (all:List Oper)(I:Array Bool→St→Prop):Prop:=∀k,headAt all k=true→∀l s,I (l.setIfInBounds k true) s↔I l s
theorem vAnyI_first {I:Array Bool→St→Prop}{J:St→Prop}{K:Env→St→Prop}{E:VV→Env→St→Prop}{keep:List Nat}(hE:EOk N keep E)(hM:HM all I){i:Nat}{oi:Oper}{y:VV}(hi:all[i]?=some oi)(hih:headAt all i=true)(hdk:dOk keep oi.dst=true) :
  ∀(f:Nat) (listed:Array Bool) (env:Env) (s:St),closedB all listed=true →
   (∀j oj,all.toArray[j]?=some oj→j≠i→listed.getD j true=false→(∀e∈oj.after,Region.binds .any e=true→e.on≠i)→oi.apart all.toArray oj=true) →
   i∈Region.ready .any all.toArray listed→(∀s,J s→YV P N all s oi y env)→I listed s→J s →
   vAnyI P N all (fun l s=>I l s∧(freeOf all i l=true→J s)) K E f (listed.setIfInBounds i true) (put N env oi.dst y) s→vAnyI P N all I K E (f+1) listed env s:=by
 have take:∀(env:Env) (s:St) (K':Env→St→Prop),YV P N all s oi y env→K' (put N env oi.dst y) s→vopi P N all E i K' env s:=fun env s K' hy hk=>by
  unfold vopi
  rw[hi]
  exact vgone_congr (E:=F0) (fun _ _=>rfl) (fun _ _ _=>rfl) (fun _ _ h=>h) (fun _ _ h=>h.elim) (hy K' hk)
 intro f
 induction f with
 |zero=>
  intro listed env s _ _ hr hy hI hJ H
  refine⟨fun h=>(by rw[h]at hr;cases hr),fun j hj=>?_⟩
  by_cases hji:j=i
  ·subst hji;exact take _ _ _ (hy s hJ) ⟨(hM _ hih _ _).2 hI,vAnyI_weak (fun l s h=>h.1) _ _ _ _ H⟩
  ·have:=ready_mono hj hji
   rw[H.1]at this
   cases this
 |succ f ih=>
  intro listed env s hcl hfree hr hy hI hJ H
  refine⟨fun h=>(by rw[h]at hr;cases hr),fun j hj=>?_⟩
  by_cases hji:j=i
  ·subst hji;exact take _ _ _ (hy s hJ) ⟨(hM _ hih _ _).2 hI,vAnyI_weak (fun l s h=>h.1) _ _ _ _ H⟩
  ·have h1:=H.2 j (ready_mono hj hji)
   obtain⟨hjun,oj,hoj,hall⟩:=mem_ready.1 hj
   have hun:=(mem_ready.1 hr).1
   have hnot:∀e∈oj.after,Region.binds .any e=true→e.on≠i:=fun e he hb heq=>by
    have h1:=hall e he hb
    rw[heq,getD_both hun]at h1
    cases h1
   have hap:=hfree j oj hoj hji hjun hnot
   obtain⟨a1,a2,a3⟩:=Oper.apart_spec hap
   have hfree':∀k ok,all.toArray[k]?=some ok→k≠i→(listed.setIfInBounds j true).getD k true=false →
     (∀e∈ok.after,Region.binds .any e=true→e.on≠i)→oi.apart all.toArray ok=true:=fun k ok hk hki hun hno=>by
    refine hfree k ok hk hki ?_ hno
    by_cases hjk:j=k
    ·subst hjk;exact hjun
    ·rw[getD_set_ne true hjk]at hun;exact hun
   have hcl':=closed_set hcl hj
   have hfo:freeOf all i (listed.setIfInBounds j true)=true:=freeOf_closed hcl' (by rw[getD_set_ne false hji];exact getD_both hun)
   have hj':all[j]?=some oj:=by simpa using hoj
   unfold vopi at h1 ⊢
   rw[hj']at h1 ⊢
   obtain⟨e1,e2⟩:=YV_put (N:=N) (u:=y) (env:=env) a1
   refine vgone_congr (fun x hx=>(e1 x hx).symm) (fun j b hg=>(e2 j b hg).symm) (fun z s' hz=>?_) (fun x s'=>hE x _ s' _ _ hdk) h1
   rw[Array.setIfInBounds_comm _ _ (Ne.symm hji)]at hz
   obtain⟨⟨hI',hJ'⟩,hz⟩:=hz
   rw[put_comm a2]at hz
   have hI2:=(hM _ hih _ _).1 hI'
   refine⟨hI2,ih (listed.setIfInBounds j true) (put N env oj.dst z) s' hcl' hfree' (ready_mono hr (Ne.symm hji)) (fun s'' hs''=>?_) hI2 (hJ' (by rw[freeOf_set hih];exact hfo)) hz⟩
   obtain⟨q1,q2⟩:=YV_put (N:=N) (u:=z) (env:=env) a3
   exact YV_same q1 q2 (hy s'' hs'')
def Iof {s:St}{I:St→Prop}:Prop:=I s
def noDst (all:List Oper)(o:Oper)(j:Nat):Bool:=match all[j]? with|some o'=>(match o'.dst with|some d=>!(o.looksAt all.toArray).contains d|none=>true)|none=>false
def headB (all:List Oper)(keep:List Nat):List Nat→Array Bool→Array Bool→Bool
 |[],listed,l2=>decide (listed=l2)
 |i::r,listed,l2=>(match all[i]? with|some o=>headOp o.pos o.op && dOk keep o.dst && (i::r).all (noDst all o)|none=>false) &&
   (Region.ready .any all.toArray listed).contains i && Region.free .any all.toArray listed i && headB all keep r (listed.setIfInBounds i true) l2
theorem heldO_refl {env:Env}{s:St}{op:Op}:heldO P env s op s:=by
 unfold heldO
 split
 ·rfl
 ·rfl
 ·rfl
 ·split
  ·split<;>trivial
  ·trivial
 ·trivial
theorem heldL_refl {env:Env}{s:St}:∀{l:List Oper},heldL P all env s l s
 |[]=>trivial
 |o::l=>⟨by
   unfold heldG
   split
   ·exact heldO_refl
   ·unfold heldB
    split
    ·split
     ·exact heldO_refl
     ·trivial
    ·trivial,heldL_refl⟩
def pickL (all:List Oper):List Nat→List Oper
 |[]=>[]
 |i::r=>match all[i]? with|some o=>o::pickL all r|none=>pickL all r
def heldF (P:Program)(all:List Oper)(env:Env)(s:St)(is:List Nat)(l:Array Bool)(s':St):Prop:=heldL P all env s (pickL all (is.filter fun i=>freeOf all i l)) s'
theorem heldF_set {env:Env}{s s':St}{is:List Nat}{l:Array Bool}{k:Nat}(hk:headAt all k=true):heldF P all env s is (l.setIfInBounds k true) s'↔heldF P all env s is l s':=by
 unfold heldF
 simp only[freeOf_set hk]
theorem head_go {K:Env→St→Prop}{E:VV→Env→St→Prop}{keep:List Nat}(hE:EOk N keep E){l2:Array Bool}{f:Nat}{s:St}{Kh:Env→St→Prop} :
  ∀(is:List Nat) (ops:List Oper),is.map (fun i=>all[i]?)=ops.map some→∀(listed:Array Bool) (env:Env),closedB all listed=true→headB all keep is listed l2=true→vops P N all Kh F0 ops env s →
   ∃envf,Kh envf s∧(∀t,(∀o∈ops,o.dst≠some t)→envf t=env t) ∧
    ∀I:Array Bool→St→Prop,HM all I→I listed s→vAnyI P N all (fun l s''=>I l s''∧heldF P all envf s is l s'') K E f l2 envf s→vAnyI P N all I K E (f+is.length) listed env s
 |[],ops,hm,listed,env,hcl,hB,h=>by
  have:ops=[]:=by simpa using hm.symm
  subst this
  have:listed=l2:=by simpa [headB]using hB
  subst this
  exact⟨env,h,fun _ _=>rfl,fun I _ _ H=>vAnyI_weak (fun l s h=>h.1) _ _ _ _ H⟩
 |i::is,ops,hm,listed,env,hcl,hB,h=>by
  cases ops with
  |nil=>simp at hm
  |cons o ops=>
   simp only[List.map_cons,List.cons.injEq]at hm
   obtain⟨hi,hm'⟩:=hm
   simp only[headB,hi,Bool.and_eq_true,List.all_cons]at hB
   obtain⟨⟨⟨⟨⟨hh,hdk⟩,hself,hno⟩,hr⟩,hf⟩,hB'⟩:=hB
   have hr':i∈Region.ready .any all.toArray listed:=by simpa using hr
   have hih:headAt all i=true:=by unfold headAt;rw[hi];exact hh
   have h':vgone P N all F0 o (fun e s'=>vops P N all Kh F0 ops e s') env s:=by
    unfold vgone
    simp only[vops]at h
    exact h
   obtain⟨y,hy,hY⟩:=vgone_head hh h'
   obtain⟨envf,hk,hag,himp⟩:=head_go hE is ops hm' _ _ (closed_set hcl hr') hB' hy
   have nod:∀o'∈o::ops,∀d,o'.dst=some d→d∉o.looksAt all.toArray:=by
    intro o' ho' d hd
    rcases List.mem_cons.1 ho' with rfl|ho'
    ·simp only[noDst,hi,hd,Bool.not_eq_true',List.contains_eq_mem,decide_eq_false_iff_not]at hself
     exact hself
    ·have:some o'∈is.map (fun i=>all[i]?):=by rw[hm'];exact List.mem_map.2 ⟨o',ho',rfl⟩
     obtain⟨j,hj,hjo⟩:=List.mem_map.1 this
     have:=List.all_eq_true.1 hno j hj
     simp only[noDst,hjo,hd,Bool.not_eq_true',List.contains_eq_mem,decide_eq_false_iff_not]at this
     exact this
   have agree:∀t,t∈o.looksAt all.toArray→envf t=env t:=by
    intro t ht
    have h1:envf t=put N env o.dst y t:=hag t fun o' ho' hd=>nod o' (List.mem_cons_of_mem _ ho') t hd ht
    rw[h1]
    have:=rd_put (N:=N) (env:=env) (dst:=o.dst) (u:=y) (x:=.tmp t) fun d hd e=>nod o (List.mem_cons_self ..) d hd (by injection e with e;subst e;exact ht)
    exact this
   refine⟨envf,hk,fun t ht=>?_,fun I hM hI H=>?_⟩
   ·have h1:envf t=put N env o.dst y t:=hag t fun o' ho'=>ht o' (List.mem_cons_of_mem _ ho')
    rw[h1]
    have:=rd_put (N:=N) (env:=env) (dst:=o.dst) (u:=y) (x:=.tmp t) fun d hd e=>by injection e with e;subst e;exact ht o (List.mem_cons_self ..) hd
    exact this
   ·have hoi:all[i]?=some o:=hi
    have hx:∀x∈o.op.operands.toList,rd env x=rd envf x:=fun x hx=>by
     cases x with
     |tmp t=>exact(agree t (List.mem_append_left _ (List.mem_filterMap.2 ⟨.tmp t,by simpa using hx,rfl⟩))).symm
     |_=>rfl
    have hg:∀j b,o.guard=some (j,b)→yv all env j=yv all envf j:=fun j b hgd=>by
     unfold yv
     cases hj:(all[j]?).bind (·.dst)with
     |none=>rfl
     |some t=>
      refine(agree t (List.mem_append_right _ ?_)).symm
      simp[hgd,hj]
    have hrefl:=(heldL_refl (P:=P) (all:=all) (env:=env) (s:=s) (l:=[o])).1
    refine vAnyI_first (J:=fun s''=>heldG P all env s o s'') hE hM hoi hih hdk (f+is.length) listed env s hcl (Region.free_spec (by simpa using hoi) hf) hr' (fun s' hs=>hY s' hs) hI hrefl ?_
    refine himp _ (fun k hk l s''=>?_) ⟨(hM _ hih _ _).2 hI,fun _=>hrefl⟩ (vAnyI_weak (fun l s'' hs=>?_) _ _ _ _ H)
    ·rw[freeOf_set hk,hM k hk l s'']
    ·obtain⟨h1,h2⟩:=hs
     unfold heldF at h2 ⊢
     cases hfo:freeOf all i l with
     |false=>
      rw[List.filter_cons,hfo]at h2
      exact⟨⟨h1,fun h=>by cases h⟩,h2⟩
     |true=>
      rw[List.filter_cons,hfo]at h2
      simp only[if_true,pickL,hi]at h2
      exact⟨⟨h1,fun _=>heldG_congr hx hg h2.1⟩,h2.2⟩
theorem pickL_some {keep:List Nat}{l2:Array Bool}:∀(is:List Nat) (listed:Array Bool),headB all keep is listed l2=true→is.map (fun i=>all[i]?)=(pickL all is).map some
 |[],_,_=>rfl
 |i::r,listed,h=>by
  simp only[headB,Bool.and_eq_true]at h
  cases hi:all[i]? with
  |none=>simp[hi]at h
  |some o=>simp only[pickL,List.map_cons,hi,pickL_some r _ h.2]
theorem pick0:pickL all []=[]:=rfl
def pickC:Option Oper→List Oper→List Oper
 |some o,l=>o::l
 |none,l=>l
theorem pick1 {i:Nat}{r:List Nat}:pickL all (i::r)=pickC all[i]? (pickL all r):=by simp only[pickL];cases all[i]?<;>rfl
theorem pick2 {o:Oper}{l:List Oper}:pickC (some o) l=o::l:=rfl
theorem G_head {I:Array Bool→St→Prop}{K:Env→St→Prop}{E:VV→Env→St→Prop}{keep:List Nat}(hE:EOk N keep E)(is:List Nat){f g:Nat}{listed:Array Bool}(l2:Array Bool){env:Env}{s:St}{ops:List Oper}
    (hm:pickL all is=ops) (hB:headB all keep is listed l2=true) (hcl:closedB all listed=true) (hg:g=f+is.length) (hI:@Iof s (I listed)) (hM:HM all I)
    (h:∀Kh:Env→St→Prop,@Kof (fun envf s'=>@Iof s' (fun s''=>I l2 s''∧heldF P all envf s' is l2 s'')→HM all (fun l s''=>I l s''∧heldF P all envf s' is l s'')→vAnyI P N all (fun l s''=>I l s''∧heldF P all envf s' is l s'') K E f l2 envf s') Kh→vops P N all Kh F0 ops env s) :
    vAnyI P N all I K E g listed env s:=by
  subst hg
  obtain⟨envf,hk,_,himp⟩:=head_go (K:=K) hE is ops (hm ▸ pickL_some is listed hB) listed env hcl hB (h _ (fun _ _ h=>h))
  refine himp I hM hI (hk ⟨?_,heldL_refl⟩ (fun k hk l s''=>by show (I _ _∧_)↔(I _ _∧_);rw[hM k hk l s'',heldF_set hk]))
  have:∀(is:List Nat) (listed:Array Bool),headB all keep is listed l2=true→I listed s→I l2 s:=by
    intro is
    induction is with
    | nil => intro listed h hi; have : listed = l2 := by simpa [headB] using h
             subst this;exact hi
    |cons i is ih=>
      intro listed h hi
      simp only[headB,Bool.and_eq_true]at h
      refine ih _ h.2 ((hM i ?_ _ _).2 hi)
      unfold headAt
      cases ho:all[i]? with
      |none=>rw[ho]at h;simp at h
      |some o=>rw[ho]at h;simp only[Bool.and_eq_true]at h;exact h.1.1.1.1.1
  exact this is listed hB hI
def vEach (P:Program)(N:Nat)(all:List Oper)(I:Array Bool→St→Prop)(K:Env→St→Prop)(E:VV→Env→St→Prop)(f:Nat)(listed:Array Bool)(env:Env)(s:St):List (Nat×Array Bool)→Prop
 |[]=>True
 |i::r=>(listed.setIfInBounds i.1 true=i.2∧∀K':Env→St→Prop,@Kof (fun e s'=>I i.2 s'∧(@Iof s' (I i.2)→vAnyI P N all I K E f i.2 e s')) K'→∃o,all[i.1]?=some o∧vops P N all K' E [o] env s)∧vEach P N all I K E f listed env s r
theorem vEach_get {I:Array Bool→St→Prop}{K:Env→St→Prop}{E:VV→Env→St→Prop}{f:Nat}{listed:Array Bool}{env:Env}{s:St}:∀{r:List (Nat×Array Bool)} {i:Nat},i∈r.map (·.1)→vEach P N all I K E f listed env s r →
  ∀K':Env→St→Prop,@Kof (fun e s'=>I (listed.setIfInBounds i true) s'∧(@Iof s' (I (listed.setIfInBounds i true))→vAnyI P N all I K E f (listed.setIfInBounds i true) e s')) K'→∃o,all[i]?=some o∧vops P N all K' E [o] env s
 |[],i,h,_=>by cases h
 |j::r,i,h,hh=>by
  rcases List.mem_cons.1 h with rfl|h
  ·intro K' hK'
   rw[hh.1.1]at hK'
   exact hh.1.2 K' hK'
  ·exact vEach_get h hh.2
theorem G_each {I:Array Bool→St→Prop}{K:Env→St→Prop}{E:VV→Env→St→Prop}{f:Nat}{listed:Array Bool}{env:Env}{s:St}(rs:List (Nat×Array Bool))(hr:Region.ready .any all.toArray listed=rs.map (·.1))(hne:rs.map (·.1)≠[])
  (h:vEach P N all I K E f listed env s rs):vAnyI P N all I K E (f+1) listed env s:=by
 refine⟨fun e=>absurd (hr.symm.trans e) hne,fun i hi=>?_⟩
 rw[hr]at hi
 obtain⟨o,ho,this⟩:=vEach_get hi h (fun e s'=>I (listed.setIfInBounds i true) s'∧vAnyI P N all I K E f (listed.setIfInBounds i true) e s') (fun _ _ h=>⟨h.1,h.2 h.1⟩)
 unfold vopi
 rw[ho]
 exact this
theorem vAnyI_E {I:Array Bool→St→Prop}{K K':Env→St→Prop}{E E':VV→Env→St→Prop}(hK:∀e s,K e s→K' e s)(hE:∀x e s,E x e s→E' x e s):∀(f:Nat) (listed:Array Bool) (env:Env) (s:St),vAnyI P N all I K E f listed env s→vAnyI P N all I K' E' f listed env s
 |0,_,_,_,h=>⟨h.1,hK _ _ h.2⟩
 |f+1,_,_,_,h=>⟨fun e=>hK _ _ (h.1 e),fun i hi=>by
   have h2:=h.2 i hi
   unfold vopi at *
   cases ho:all[i]? with
   |none=>rw[ho]at h2;exact⟨h2.1,vAnyI_E hK hE f _ _ _ h2.2⟩
   |some o=>
    rw[ho]at h2
    exact vgone_congr (fun _ _=>rfl) (fun _ _ _=>rfl) (fun _ _ h=>⟨h.1,vAnyI_E hK hE f _ _ _ h.2⟩) (fun _ _ h=>hE _ _ _ h) h2⟩
theorem G_draw {D:List Deferred}{k:List Itm}{Q:Pst}{env:Env}{s:St}{id:Nat}{ops:List Oper}{keep:List Nat}(hm:P.follows .mixedOrders=true)(hQ:EOk N keep (fun x=>Q (.panic x)))
  (h:∀(K:Env→St→Prop) (E:VV→Env→St→Prop),@Kof (Kp P N D k Q .norm) K→@Eof (fun x=>Q (.panic x)) E→EOk N keep E →
   @Iof s (fun _=>True)→HM ops (fun _ _=>True)→vAnyI P N ops (fun _ _=>True) K E ops.length (Array.replicate ops.length false) env s) :
  Kp P N D (.code (.region id ops.toArray true)::k) Q .norm env s:=
 L_draw hm fun K E hK hE=>vAny_of_I _ _ _ _ (vAnyI_E (fun _ _ h=>h) hE _ _ _ _ (h K (fun x env s=>Q (.panic x) env s) hK (fun _ _ _ h=>h) hQ trivial (fun _ _ _ _=>Iff.rfl)))
def tmpOf:ResultVar→Tmp
 |.tmp t=>t
 |.cell t _=>t
theorem put_other {env:Env}{d:Option Tmp}{y:VV}{t:Tmp}(h:d≠some t):put N env d y t=env t:=by
 have:=rd_put (N:=N) (env:=env) (dst:=d) (u:=y) (x:=.tmp t) fun d' hd e=>by injection e with e;subst e;exact h hd
 exact this
theorem vres_put {env:Env}{d:Option Tmp}{y:VV}{s:St}{rs:List ResultVar}(h:dOk (rs.map tmpOf) d=true):vres P (put N env d y) s rs=vres P env s rs:=by
 have h1:∀r∈rs,vone P (put N env d y) s r=vone P env s r:=fun r hr=>by
  have hne:d≠some (tmpOf r):=fun e=>by
   subst e
   simp only[dOk,Bool.not_eq_true',List.contains_eq_mem,decide_eq_false_iff_not]at h
   exact h (List.mem_map.2 ⟨r,hr,rfl⟩)
  cases r with
  |tmp t=>simp only[vone];rw[put_other (t:=t) hne]
  |cell t T=>simp only[vone];rw[put_other (t:=t) hne]
 have h2:∀l:List ResultVar,(∀r∈l,r∈rs)→vones P (put N env d y) s l=vones P env s l:=by
  intro l
  induction l with
  |nil=>intro _;rfl
  |cons r l ih=>
   intro hl
   simp only[vones,h1 r (hl r (List.mem_cons_self ..)),ih fun r' hr'=>hl r' (List.mem_cons_of_mem _ hr')]
 unfold vres
 split
 ·exact h1 _ (by simp)
 ·rw[h2 _ fun _ h=>h]
theorem QD_keep {rs:List ResultVar}{g:FuncId}{xs:List VV}{Q0:SEnd→St→Prop}:EOk N (rs.map tmpOf) (fun x=>QD P rs g xs Q0 (.panic x)):=by
 intro x env s d y hd h
 obtain⟨s',h1,z,hz,h2⟩:=h
 rw[vres_put hd]at hz
 exact⟨s',h1,z,hz,h2⟩
def QP (P:Program)(N:Nat)(rs:List ResultVar)(t:Tmp)(g:FuncId)(caps:List Operand)(rest:Code)(Q0:SEnd→St→Prop):Pst:=fun f env s=>match f with
 |.norm=>∀D,Kp P N D [.code rest] (QD P rs g (caps.map (rd env)) Q0) .norm (put N env (some t) (.fn g (caps.map (rd env)))) s
 |f=>Qf P rs Q0 f env s
theorem QP_norm {P:Program}{N:Nat}{rs:List ResultVar}{t:Tmp}{g:FuncId}{caps:List Operand}{rest:Code}{Q0:SEnd→St→Prop}{Q:Pst}{env:Env}{s:St}(hQ:@Qof (QP P N rs t g caps rest Q0) Q)
  (h:∀(D:List Deferred) (Q2:Pst),@Qof (QD P rs g (caps.map (rd env)) Q0) Q2→EOk N (rs.map tmpOf) (fun x=>Q2 (.panic x))→Kp P N D [.code rest] Q2 .norm (put N env (some t) (.fn g (caps.map (rd env)))) s):Kp P N [] [] Q .norm env s:=
 hQ _ _ _ fun D=>h D _ (fun _ _ _ h=>h) QD_keep
theorem QD_ret {P:Program}{rs:List ResultVar}{g:FuncId}{xs:List VV}{Q0:SEnd→St→Prop}{Q:Pst}{env:Env}{s s1:St}{v:VV}(hQ:@Qof (QD P rs g xs Q0) Q)(hd:SDef P g xs s none s1)
  (hv:vres P env s1 rs=some v) (h:∃y s',Wk v y∧Fg s1 s'∧Q0 (.ret y) s'):Q .ret env s:=hQ _ _ _ ⟨s1,hd,v,hv,h⟩
theorem G_enterD {f:FuncId}{fn:Func}{pre:List Code}{rest:Code}{xs:List VV}{s:St}{Q0:SEnd→St→Prop}{id:Nat}{t:Tmp}{g:FuncId}{caps:Array Operand}{c:Call}{ty ty2:TypeId}{p p2:String}{af af2:Array Edge}
  (hf:P.funcs[f]?=some fn)
  (hb:fn.body=some (nest pre (.seq (.region id #[⟨some t,.makeFunc (.func g) #[] caps,ty,p,af,none⟩,⟨none,.defer c,ty2,p2,af2,none⟩] false) rest)))
  (hN:fn.ntmps=N) (hl:Nat.ble xs.length N=true) (hcall:Callable P g) (hc:c.callee=.value (.tmp t)) (ha:c.args=#[]) (ht:t<N)
  (h:∀Q:Pst,@Qof (QP P N fn.results.toList t g caps.toList rest Q0) Q→EOk N [] (fun x=>Q (.panic x))→Kp P N [] (pre.map .code) Q .norm (env0 xs) s):SCalls P f xs s Q0:=by
 refine S_enterD hf hb hN hl hcall hc ha ht ?_
 have:=h (QP P N fn.results.toList t g caps.toList rest Q0) (fun _ _ _ h=>h) (fun _ _ _ _ _ _ h=>h)
 exact this
end
attribute [go_sem] Int.ofNat_lt Int.ofNat_le Int.natCast_inj
inductive Stp:Prop→Prop→Prop
 |seq {P:Program} {N:Nat} {D:List Deferred} {k:List Itm} {Q:Pst} {env:Env} {s:St} {x y:Code}:Stp (Kp P N D (.code (.seq x y)::k) Q .norm env s) (Kp P N D (.code x::.code y::k) Q .norm env s)
 |blk {P:Program} {N:Nat} {D:List Deferred} {k:List Itm} {Q:Pst} {env:Env} {s:St} {id:Nat} {c:Code}:Stp (Kp P N D (.code (.block id c)::k) Q .norm env s) (Kp P N D (.code c::.blk id::k) Q .norm env s)
 |skip {P:Program} {N:Nat} {D:List Deferred} {k:List Itm} {Q:Pst} {env:Env} {s:St}:Stp (Kp P N D (.code .skip::k) Q .norm env s) (Kp P N D k Q .norm env s)
 |endb {P:Program} {N:Nat} {D:List Deferred} {k:List Itm} {Q:Pst} {env:Env} {s:St} {id:Nat}:Stp (Kp P N D (.blk id::k) Q .norm env s) (Kp P N D k Q .norm env s)
 |ret {P:Program} {N:Nat} {D:List Deferred} {k:List Itm} {Q:Pst} {env:Env} {s:St}:Stp (Kp P N D (.code .ret::k) Q .norm env s) (Q .ret env s)
 |exit {P:Program} {N:Nat} {D:List Deferred} {k:List Itm} {Q:Pst} {env:Env} {s:St} {id:Nat}:Stp (Kp P N D (.code (.exit id)::k) Q .norm env s) (Kp P N D k Q (.exit id) env s)
 |xcode {P:Program} {N:Nat} {D:List Deferred} {k:List Itm} {Q:Pst} {env:Env} {s:St} {id:Nat} {c:Code}:Stp (Kp P N D (.code c::k) Q (.exit id) env s) (Kp P N D k Q (.exit id) env s)
 |xback {P:Program} {N:Nat} {D:List Deferred} {k:List Itm} {Q:Pst} {env:Env} {s:St} {id:Nat} {I:Env→St→Prop}:Stp (Kp P N D (.back I::k) Q (.exit id) env s) (Kp P N D k Q (.exit id) env s)
 |xblk {P:Program} {N:Nat} {D:List Deferred} {k:List Itm} {Q:Pst} {env:Env} {s:St} {id:Nat}:Stp (Kp P N D (.blk id::k) Q (.exit id) env s) (Kp P N D k Q .norm env s)
 |xpast {P:Program} {N:Nat} {D:List Deferred} {k:List Itm} {Q:Pst} {env:Env} {s:St} {id j:Nat} (h:j≠id):Stp (Kp P N D (.blk id::k) Q (.exit j) env s) (Kp P N D k Q (.exit j) env s)
 |back {P:Program} {N:Nat} {D:List Deferred} {k:List Itm} {Q:Pst} {env:Env} {s:St} {I:Env→St→Prop}:Stp (Kp P N D (.back I::k) Q .norm env s) (I env s)
theorem Stp.go {p q:Prop}(h:Stp p q)(hq:q):p:=by
 cases h with
 |seq=>exact L_seq hq
 |blk=>exact L_blk hq
 |skip=>exact L_skip hq
 |endb=>exact L_endblk hq
 |ret=>exact L_ret hq
 |exit=>exact L_exit hq
 |xcode=>exact X_code hq
 |xback=>exact X_back hq
 |xblk=>exact X_blk hq
 |xpast h=>exact X_past h hq
 |back=>exact L_back hq
theorem Ctl {p q:Prop}(h:q)(hs:Stp p q:=by(with_reducible constructor)<;>decide):p:=hs.go h
theorem z_sl {p:Prop}(h:p:=by((try simp(disch:=first|assumption|omega) only[go_sem,seval, *])<;>first|rfl|omega)):p:=h
theorem z_fg {p:Prop}(h:p:=by first|((try dsimp only);(repeat(first|exact Fg.refl _|exact Fg.own (by assumption)|(refine Fg.set ?_ _ _)|(refine Fg.setA ?_ (by first|assumption|(simp(disch:=assumption) only[own_rd,St.set,if_false,if_true, *];done)))));done)|fail):p:=h
theorem W_ret {P:Program}{env:Env}{s:St}{rs rs':List ResultVar}{Q0:SEnd→St→Prop}{Q:Pst}{v:VV}(hr:rs=rs')(hQ:@Qof (Qf P rs Q0) Q)(h:∃y s',Wk v y∧Fg s s'∧Q0 (.ret y) s')
  (hv:vres P env s rs'=some v:=by(simp(disch:=first|assumption|omega) only[go_sem,seval, *]<;>rfl)):Q .ret env s:=by subst hr;exact G_ret hQ hv h
theorem W_norm {P:Program}{N:Nat}{D:List Deferred}{env:Env}{s:St}{rs rs':List ResultVar}{Q0:SEnd→St→Prop}{Q:Pst}{v:VV}(hr:rs=rs')(hQ:@Qof (Qf P rs Q0) Q)(h:∃y s',Wk v y∧Fg s s'∧Q0 (.ret y) s')
  (hv:vres P env s rs'=some v:=by(simp(disch:=first|assumption|omega) only[go_sem,seval, *]<;>rfl)):Kp P N D [] Q .norm env s:=by subst hr;exact G_norm hQ hv h
end Go.Proofs.YtgdbgfjhenobdaaGreatDoor
