/- Walks of functions that the claim reaches, and plain facts of them. Conditions: those in the statements. -/
import Derived.Test.YtgdbgfjhenobdaaGreatDoorJmSoundFj
set_option linter.unusedSimpArgs false
set_option linter.unusedVariables false
set_option linter.defProp false
namespace Go.Proofs.YtgdbgfjhenobdaaGreatDoor
open Go.RowKit
section
variable (P : Program) (N : Nat) (all : List Oper) (K : Env → St → Prop) (E : VV → Env → St → Prop)
def vput (d:Option Tmp)(rest:List Oper)(env:Env)(s:St):Option VV→Prop
 |some z=>vops P N all K E rest (put N env d z) s
 |none=>False
def vputS (d:Option Tmp)(rest:List Oper)(env:Env):Option St→Prop
 |some s=>vops P N all K E rest (put N env d (.tup [])) s
 |none=>False
def vpickS (d:Option Tmp)(rest:List Oper)(env:Env)(s:St)(c a b:VV):Prop:=
 match c with
 |.bool t=>vops P N all K E rest (put N env d (if t then a else b)) s
 |_=>False
def vnil (d:Option Tmp)(rest:List Oper)(env:Env)(s:St)(x:VV):Prop:=
 (match x with|.ptr _ _=>True|.eptr _=>True|.fn _ _=>True|.mp _=>True|_=>False)∧vops P N all K E rest (put N env d x) s
def vta (d:Option Tmp)(rest:List Oper)(env:Env)(s:St)(T:TypeId):VV→Prop
 |.iface T' v=>T'=T∧vops P N all K E rest (put N env d (.tup [v,.bool true])) s
 |_=>False
def vnl (d:Option Tmp)(rest:List Oper)(env:Env)(s:St)(neg:Bool):Option Bool→Prop
 |some b=>vops P N all K E rest (put N env d (.bool (if neg then !b else b))) s
 |none=>False
def vmk (d:Option Tmp)(rest:List Oper)(env:Env)(s:St)(k:QK)(e:TypeId)(q:QI)(x y:VV):Prop:=
 match x,y,q.z with
 |.int _ n,.int _ m,[z]=>n=m∧0≤n∧n * q.bt≤140737488355328∧n≤140737488355328∧(match k with|.slice _=>True|_=>False)∧q.zok=true ∧
  ∀b,New s b→vops P N all K E rest (put N env d (.msl b n.toNat)) (s.set b (.obj e (List.replicate n.toNat z)))
 |.int _ n,.int _ m,z1::z2::zs=>n=m∧0<n∧n * q.bt≤140737488355328∧n * q.sz≤140737488355328∧(match k with|.slice _=>True|_=>False)∧q.zok=true ∧
  ∀b,New s b→vops P N all K E rest (put N env d (.mrw b n.toNat)) (s.set b (.row e q.sz (List.replicate n.toNat (z1::z2::zs)).flatten))
 |_,_,_=>False
def vbin (op:BinOp)(T:TypeId)(cy:Bool)(d:Option Tmp)(rest:List Oper)(env:Env)(s:St)(x y:VV):Prop:=
  match x,y with
  |.int k a,.int k' b=>(k=k'∨isSh op=true)∧vput P N all K E d rest env s (vint op k a b)
  |.str a,.str b=>
    (match op with
     |.add=>a.length+b.length≤9223372036854775807∧vops P N all K E rest (put N env d (.str (a++b))) s
     |.eql=>vops P N all K E rest (put N env d (.bool (decide (a=b)))) s
     |.neq=>vops P N all K E rest (put N env d (.bool !(decide (a=b)))) s
     |_=>False)
  |.bool a,.bool b=>(match (qi P T).k with|.bool=>True|_=>False) ∧
    (match op with
     |.eql=>vops P N all K E rest (put N env d (.bool (a == b))) s
     |.neq=>vops P N all K E rest (put N env d (.bool !(a == b))) s
     |_=>False)
  |.ptr b i,.ptr b' j=>pok P T=true∧b=b'∧i=j ∧
    (match op with
     |.eql=>vops P N all K E rest (put N env d (.bool true)) s
     |.neq=>vops P N all K E rest (put N env d (.bool false)) s
     |_=>False)
  |.agg xs,.agg ys=>
    (match op with
     |.eql=>vnl P N all K E d rest env s false (vagq P T xs ys)
     |.neq=>vnl P N all K E d rest env s true (vagq P T xs ys)
     |_=>False)
  |x,y=>cy=true ∧
    (match op with
     |.eql=>vnl P N all K E d rest env s false (nilB (qi P T).k x y)
     |.neq=>vnl P N all K E d rest env s true (nilB (qi P T).k x y)
     |_=>False)
def vun (op:UnOp)(d:Option Tmp)(rest:List Oper)(env:Env)(s:St)(x:VV):Prop:=
 match op,x with
 |.not,.bool b=>vops P N all K E rest (put N env d (.bool !b)) s
 |.neg,.int k n=>vops P N all K E rest (put N env d (.int k (k.wrap (0 - n)))) s
 |_,_=>False
def vfldA (d:Option Tmp)(rest:List Oper)(env:Env)(s:St)(x:VV)(q:Option (Nat×Nat×Bool)):Prop:=
 match x,q with
 |.eptr cs,some (off,_,_)=>off≤cs.length∧vops P N all K E rest (put N env d (.eptr (cs.drop off))) s
 |.ptr b o',some (off,_,_)=>vops P N all K E rest (put N env d (.ptr b (o'+off))) s
 |_,_=>False
def vfld (d:Option Tmp)(rest:List Oper)(env:Env)(s:St)(x:VV)(q:Option (Nat×Nat×Bool)):Prop:=
 match x,q with
 |.agg cs,some (off,sz,ag)=>vput P N all K E d rest env s (partOf cs off sz ag)
 |_,_=>False
def vext (d:Option Tmp)(rest:List Oper)(env:Env)(s:St)(x:VV)(i:Nat):Prop:=
 match x with
 |.tup xs=>vput P N all K E d rest env s xs[i]?
 |_=>False
def vpan (env:Env)(s:St)(x:VV):Prop:=match x with|.iface T y=>E (.iface T y) env s|_=>False
def vagg (d:Option Tmp)(rest:List Oper)(env:Env)(s:St):Option (List VV)→Prop
 |some cs=>vops P N all K E rest (put N env d (.agg cs)) s
 |none=>False
def vrowB (d:Option Tmp)(rest:List Oper)(env:Env)(s:St)(n:Nat)(e:TypeId)(sz:Nat)(m:Bool):Option (List (List VV))→Prop
 |some xs=>match m with
  |true=>0<n∧∀b,s b=.free→vops P N all K E rest (put N env d (.mrw b n)) (s.set b (.row e sz xs.flatten))
  |false=>vops P N all K E rest (put N env d (.lst xs (ownLit n))) s
 |none=>False
def vapp (d:Option Tmp)(rest:List Oper)(env:Env)(s:St)(T T':TypeId)(q':QK)(e:TypeId)(q:QI)(x y:VV):Prop:=
 match x,y with
 |.lst xs ox,.lst ys _=>T=T'∧vappend (fun z s'=>vops P N all K E rest (put N env d z) s') e q xs ys ox s
 |.mrw b n,.lst ys _=>T=T'∧vappendM (fun z s'=>vops P N all K E rest (put N env d z) s') e q b n ys s
 |.raw (.slice none 0 0),.lst ys _=>T=T'∧vappend0 (fun z s'=>vops P N all K E rest (put N env d z) s') e q ys s
 |.lst xs ox,.str l=>q'.isStr=true∧vappend (fun z s'=>vops P N all K E rest (put N env d z) s') e q xs (bytesV l) ox s
 |_,_=>False
def vcallD (d:Option Tmp)(rest:List Oper)(env:Env)(s:St)(f:VV)(xs:List VV):Prop:=
 vcall P N E d (vops P N all K E rest) env s f xs
def vcall2 (d:Option Tmp)(rest:List Oper)(env:Env)(s:St)(f:FuncId)(xs:List VV):Prop:=
 ∃(Q:SEnd→St→Prop),SCallx P f xs s Q ∧
  (∀x s',Q (.ret x) s'→vops P N all K E rest (put N env d x) s')∧(∀x s',Q (.panic x) s'→E x env s')
def vgd (g:VV)(want:Bool)(d:Option Tmp)(op:Op)(ty:TypeId)(p:String)(af:Array Edge)(rest:List Oper)(env:Env)(s:St):Prop:=
 match g with
 |.bool b=>if b=want then vops P N all K E (⟨d,op,ty,p,af,none⟩::rest) env s else vops P N all K E rest (put N env d (.tup [])) s
 |.tup _=>vops P N all K E rest (put N env d (.tup [])) s
 |_=>False
variable {P N all K E}
variable {d : Option Tmp} {ty T T' : TypeId} {p : String} {af : Array Edge} {rest : List Oper} {env : Env} {s : St} {x y z c a b : Operand} {i j n : Nat}
theorem e_nil:vops P N all K E [] env s=K env s:=rfl
theorem e_move:vops P N all K E (⟨d,.move x,ty,p,af,none⟩::rest) env s=vops P N all K E rest (put N env d (rd env x)) s:=rfl
theorem e_assign:vops P N all K E (⟨d,.assign x,ty,p,af,none⟩::rest) env s=vops P N all K E rest (put N env d (rd env x)) s:=rfl
theorem e_guard {op:Op}{w:Bool}:vops P N all K E (⟨d,op,ty,p,af,some (j,w)⟩::rest) env s=vgd P N all K E (yv all env j) w d op ty p af rest env s:=by
 simp only[vops,vgd,vguard]
 cases yv all env j<;>rfl
theorem e_pick:vops P N all K E (⟨d,.pick c a b,ty,p,af,none⟩::rest) env s=vpickS P N all K E d rest env s (rd env c) (rd env a) (rd env b):=by
 simp only[vops,vstep,vpickS]
 cases rd env c<;>rfl
theorem e_alloc:vops P N all K E (⟨d,.alloc T,ty,p,af,none⟩::rest) env s=((qi P T).zok=true∧∀b,New s b→vops P N all K E rest (put N env d (.ptr b 0)) (s.set b (.obj T (qi P T).z))):=rfl
theorem e_box:vops P N all K E (⟨d,.box T x,ty,p,af,none⟩::rest) env s=((rd env x).cells.all VV.one=true∧∀b,New s b→vops P N all K E rest (put N env d (.ptr b 0)) (s.set b (.obj T (rd env x).cells))):=rfl
theorem e_build {parts:Array (Nat×Operand)}:vops P N all K E (⟨d,.build T parts,ty,p,af,none⟩::rest) env s =
  (fok P T=true∧(qi P T).zok=true∧vagg P N all K E d rest env s (vfill P T (qi P T).z (parts.toList.map fun q=>(q.1,rd env q.2)))):=by
 simp only[vops,vstep]
 cases vfill P T (qi P T).z (parts.toList.map fun q=>(q.1,rd env q.2))<;>rfl
theorem e_buildSlice {parts:Array (Nat×Operand)}:vops P N all K E (⟨d,.buildSlice T n parts,ty,p,af,none⟩::rest) env s =
  (parts.size=n∧(qi P (elemT (qi P T))).zok=true∧n * (qi P (elemT (qi P T))).sz≤16777216∧(match (qi P T).k with|.slice _=>True|_=>False) ∧
   vrowB P N all K E d rest env s n (elemT (qi P T)) (qi P (elemT (qi P T))).sz (mutL T p) (vrow (qi P (elemT (qi P T))).sz 0 (parts.toList.map fun q=>(q.1,rd env q.2)))):=by
 simp only[vops,vstep]
 cases vrow (qi P (elemT (qi P T))).sz 0 (parts.toList.map fun q=>(q.1,rd env q.2))with
 |none=>rfl
 |some xs=>cases hm:mutL T p<;>(simp only[optB,vrowB,hm,Bool.false_eq_true,if_false,if_true];try rfl)
theorem p_mutL {T:TypeId}{p:String}:mutL T p=(mutT T && (false)):=rfl
theorem p_mutT {T:TypeId}:mutT T=(false):=rfl
theorem p_andT {b:Bool}:(true && b)=b:=rfl
theorem p_andF {b:Bool}:(false && b)=false:=rfl
theorem e_load:vops P N all K E (⟨d,.load T a,ty,p,af,none⟩::rest) env s=vput P N all K E d rest env s (vload (qi P T) (rd env a) s):=by
 simp only[vops,vstep]
 cases vload (qi P T) (rd env a) s<;>rfl
theorem e_store:vops P N all K E (⟨d,.store T a x,ty,p,af,none⟩::rest) env s=vputS P N all K E d rest env (vstore (qi P T) (rd env a) (rd env x) s):=by
 simp only[vops,vstep]
 cases vstore (qi P T) (rd env a) (rd env x) s<;>rfl
theorem e_nilCheck:vops P N all K E (⟨d,.nilCheck x,ty,p,af,none⟩::rest) env s=vnil P N all K E d rest env s (rd env x):=rfl
theorem e_binOp {op:BinOp}:vops P N all K E (⟨d,.binOp op T x y T',ty,p,af,none⟩::rest) env s=vbin P N all K E op T y.isConst d rest env s (rd env x) (rd env y):=by
 simp only[vops,vstep,vbin]
 have hn:∀(u v:VV) (b:Bool),optB (fun c=>vops P N all K E rest (put N env d (.bool (if b then !c else c))) s) (nilB (qi P T).k u v)=vnl P N all K E d rest env s b (nilB (qi P T).k u v):=fun u v b=>by
  cases nilB (qi P T).k u v<;>rfl
 have hm:∀(us vs:List VV) (b:Bool),optB (fun c=>vops P N all K E rest (put N env d (.bool (if b then !c else c))) s) (vagq P T us vs)=vnl P N all K E d rest env s b (vagq P T us vs):=fun u v b=>by
  cases vagq P T u v<;>rfl
 have hm1:=fun u v=>hm u v false
 have hm2:=fun u v=>hm u v true
 have hn1:=fun u v=>hn u v false
 have hn2:=fun u v=>hn u v true
 simp only[Bool.false_eq_true,if_false,if_true]at hn1 hn2 hm1 hm2
 cases rd env x<;>cases rd env y<;>first|rfl|(rename_i k a k' b;simp only;cases vint op k a b<;>rfl)|(simp only[hn1,hn2];cases op<;>rfl)|(simp only[hm1,hm2];cases op<;>rfl)
theorem e_convert:vops P N all K E (⟨d,.convert T T' x,ty,p,af,none⟩::rest) env s=vput P N all K E d rest env s (vconv P T T' (rd env x) s):=by
 simp only[vops,vstep]
 cases vconv P T T' (rd env x) s<;>rfl
theorem e_unOp {op:UnOp}:vops P N all K E (⟨d,.unOp op T x,ty,p,af,none⟩::rest) env s=vun P N all K E op d rest env s (rd env x):=rfl
theorem e_fieldAddr:vops P N all K E (⟨d,.fieldAddr T x j,ty,p,af,none⟩::rest) env s=vfldA P N all K E d rest env s (rd env x) (qf P T j):=rfl
theorem e_field:vops P N all K E (⟨d,.field T x j,ty,p,af,none⟩::rest) env s=vfld P N all K E d rest env s (rd env x) (qf P T j):=by
 simp only[vops,vstep,vfld]
 cases rd env x<;>first|rfl|skip
 rename_i cs
 rcases qf P T j with _|⟨off,sz,ag⟩
 ·rfl
 ·simp only
  cases partOf cs off sz ag<;>rfl
theorem e_indexAddr:vops P N all K E (⟨d,.indexAddr T x y,ty,p,af,none⟩::rest) env s=vput P N all K E d rest env s (vidx (qi P T) (qi P (elemT (qi P T))).sz (rd env x) (rd env y)):=by
 simp only[vops,vstep]
 cases vidx (qi P T) (qi P (elemT (qi P T))).sz (rd env x) (rd env y)<;>rfl
theorem e_index:vops P N all K E (⟨d,.index T x y,ty,p,af,none⟩::rest) env s=vput P N all K E d rest env s (vat (qi P T) (qi P (elemT (qi P T))) (rd env x) (rd env y)):=by
 simp only[vops,vstep]
 cases vat (qi P T) (qi P (elemT (qi P T))) (rd env x) (rd env y)<;>rfl
theorem e_slice {lo hi:Option Operand}:vops P N all K E (⟨d,.slice T x lo hi none,ty,p,af,none⟩::rest) env s=vput P N all K E d rest env s (vslice (qi P T) (qi P (elemT (qi P T))) (rd env x) (lo.map (rd env)) (hi.map (rd env))):=by
 simp only[vops,vstep,true_and]
 cases vslice (qi P T) (qi P (elemT (qi P T))) (rd env x) (lo.map (rd env)) (hi.map (rd env))<;>rfl
theorem e_makeInterface:vops P N all K E (⟨d,.makeInterface T x,ty,p,af,none⟩::rest) env s=((match (qi P T).k with|.iface=>False|.other=>False|_=>True)∧vops P N all K E rest (put N env d (.iface T (rd env x))) s):=rfl
theorem e_makeFunc {f:FuncId}{caps:Array Operand}:vops P N all K E (⟨d,.makeFunc (.func f) #[] caps,ty,p,af,none⟩::rest) env s=vops P N all K E rest (put N env d (.fn f (caps.toList.map (rd env)))) s:=by
 simp only[vops,vstep,true_and]
theorem e_makeSlice {l c:Operand}:vops P N all K E (⟨d,.makeSlice T l c,ty,p,af,none⟩::rest) env s=vmk P N all K E d rest env s (qi P T).k (elemT (qi P T)) (qi P (elemT (qi P T))) (rd env l) (rd env c):=rfl
theorem p_mk {k1 k2:IntKind}{T1 T2:TypeId}{sz bt:Nat}{zo:Bool}{z:VV}{n m:Int}{qk:QK}:vmk P N all K E d rest env s (.slice T1) T2 ⟨qk,sz,bt,zo,[z]⟩ (.int k1 n) (.int k2 m)=(n=m∧0≤n∧n * bt≤140737488355328∧n≤140737488355328∧True∧zo=true ∧
  ∀b,New s b→vops P N all K E rest (put N env d (.msl b n.toNat)) (s.set b (.obj T2 (List.replicate n.toNat z)))):=rfl
theorem p_mkw {k1 k2:IntKind}{T1 T2:TypeId}{sz bt:Nat}{zo:Bool}{z1 z2:VV}{zs:List VV}{n m:Int}{qk:QK}:vmk P N all K E d rest env s (.slice T1) T2 ⟨qk,sz,bt,zo,z1::z2::zs⟩ (.int k1 n) (.int k2 m)=(n=m∧0<n∧n * bt≤140737488355328∧n * sz≤140737488355328∧True∧zo=true ∧
  ∀b,New s b→vops P N all K E rest (put N env d (.mrw b n.toNat)) (s.set b (.row T2 sz (List.replicate n.toNat (z1::z2::zs)).flatten))):=rfl
theorem e_makeMap:vops P N all K E (⟨d,.makeMap T none,ty,p,af,none⟩::rest) env s=(∀b,New s b→vops P N all K E rest (put N env d (.mp b)) (s.set b (.map []))):=rfl
theorem e_lookup {ok:Bool}:vops P N all K E (⟨d,.lookup T x y ok,ty,p,af,none⟩::rest) env s=vput P N all K E d rest env s (vlookup (qi P T) (qi P (elemT (qi P T))) (qi P (keyT (qi P T))) (rd env x) (rd env y) ok s):=by
 simp only[vops,vstep]
 cases vlookup (qi P T) (qi P (elemT (qi P T))) (qi P (keyT (qi P T))) (rd env x) (rd env y) ok s<;>rfl
theorem e_mapUpdate:vops P N all K E (⟨d,.mapUpdate T x y z,ty,p,af,none⟩::rest) env s=vputS P N all K E d rest env (vupdate (qi P T) (qi P (keyT (qi P T))) (rd env x) (rd env y) (rd env z) s):=by
 simp only[vops,vstep]
 cases vupdate (qi P T) (qi P (keyT (qi P T))) (rd env x) (rd env y) (rd env z) s<;>rfl
theorem e_insert:vops P N all K E (⟨d,.insert T x y z,ty,p,af,none⟩::rest) env s=vputS P N all K E d rest env (vupdate (qi P T) (qi P (keyT (qi P T))) (rd env x) (rd env y) (rd env z) s):=by
 simp only[vops,vstep]
 cases vupdate (qi P T) (qi P (keyT (qi P T))) (rd env x) (rd env y) (rd env z) s<;>rfl
theorem e_extract:vops P N all K E (⟨d,.extract x i,ty,p,af,none⟩::rest) env s=vext P N all K E d rest env s (rd env x) i:=by
 simp only[vops,vstep,vext]
 cases rd env x<;>first|rfl|skip
 rename_i xs
 simp only
 cases xs[i]?<;>rfl
theorem e_panic:vops P N all K E (⟨d,.panic x,ty,p,af,none⟩::rest) env s=vpan E env s (rd env x):=rfl
theorem e_call {args:Array Operand}{ts:Array TypeId}:vops P N all K E (⟨d,.call ⟨.value x,args,ts⟩,ty,p,af,none⟩::rest) env s=vcallD P N all K E d rest env s (rd env x) (args.toList.map (rd env)):=rfl
theorem e_len:vops P N all K E (⟨d,.call ⟨.builtin .len,#[x],#[T]⟩,ty,p,af,none⟩::rest) env s=vput P N all K E d rest env s (vlen (qi P T) (rd env x) s):=by
 simp only[vops,vstep]
 cases vlen (qi P T) (rd env x) s<;>rfl
theorem e_min {ts:Array TypeId}:vops P N all K E (⟨d,.call ⟨.builtin .min,#[x,y],ts⟩,ty,p,af,none⟩::rest) env s=vput P N all K E d rest env s (vminmax false (rd env x) (rd env y)):=by
 simp only[vops,vstep]
 cases vminmax false (rd env x) (rd env y)<;>rfl
theorem e_max {ts:Array TypeId}:vops P N all K E (⟨d,.call ⟨.builtin .max,#[x,y],ts⟩,ty,p,af,none⟩::rest) env s=vput P N all K E d rest env s (vminmax true (rd env x) (rd env y)):=by
 simp only[vops,vstep]
 cases vminmax true (rd env x) (rd env y)<;>rfl
theorem e_append:vops P N all K E (⟨d,.call ⟨.builtin .append,#[x,y],#[T,T']⟩,ty,p,af,none⟩::rest) env s =
  ((match (qi P T).k with|.slice _=>True|_=>False)∧vapp P N all K E d rest env s T T' (qi P T').k (elemT (qi P T)) (qi P (elemT (qi P T))) (rd env x) (rd env y)):=by
 simp only[vops,vstep,vapp]
 cases rd env x<;>cases rd env y<;>rfl
variable {xs ys cs : List VV} {f : FuncId} {v w : VV} {o : Own} {t u : Bool} {k k' : IntKind} {q r : Int} {sa sb : List UInt8} {l l' : List (List VV)} {Q : QI} {op : Op} {n' : Nat} {o' : Own} {cy : Bool} {v1 w1 : Value}
theorem p_put_none:put N env none v=env:=rfl
theorem p_put_some:put N env (some i) v=if i<N then upd env i v else env:=rfl
theorem p_upd:upd env i v j=if j=i then v else env j:=rfl
theorem p_tmp:rd env (.tmp i)=env i:=rfl
theorem p_const {v:Value}:rd env (.const v)=cv v:=rfl
theorem p_func:rd env (.func f)=.fn f []:=rfl
theorem p_cint:cv (.int k q)=.int k q:=rfl
theorem p_cbool:cv (.bool t)=.bool t:=rfl
theorem p_cstr {a:Array UInt8}:cv (.string ⟨a⟩)=.str a.toList:=rfl
theorem p_cnil:cv (.slice none 0 0)=.lst [] .full:=rfl
theorem p_vput:vput P N all K E d rest env s (some v)=vops P N all K E rest (put N env d v) s:=rfl
theorem p_vputS:vputS P N all K E d rest env (some s)=vops P N all K E rest (put N env d (.tup [])) s:=rfl
theorem p_pick:vpickS P N all K E d rest env s (.bool t) v w=vops P N all K E rest (put N env d (if t then v else w)) s:=rfl
theorem p_nil1:vnil P N all K E d rest env s (.ptr i j)=vops P N all K E rest (put N env d (.ptr i j)) s:=by simp[vnil]
theorem p_nil2:vnil P N all K E d rest env s (.eptr cs)=vops P N all K E rest (put N env d (.eptr cs)) s:=by simp[vnil]
theorem p_bini {op:BinOp}:vbin P N all K E op T cy d rest env s (.int k q) (.int k r)=vput P N all K E d rest env s (vint op k q r):=by simp[vbin]
theorem p_sadd:vbin P N all K E .add T cy d rest env s (.str sa) (.str sb)=(sa.length+sb.length≤9223372036854775807∧vops P N all K E rest (put N env d (.str (sa++sb))) s):=rfl
theorem p_seql:vbin P N all K E .eql T cy d rest env s (.str sa) (.str sb)=vops P N all K E rest (put N env d (.bool (decide (sa=sb)))) s:=rfl
theorem p_sneq:vbin P N all K E .neq T cy d rest env s (.str sa) (.str sb)=vops P N all K E rest (put N env d (.bool !(decide (sa=sb)))) s:=rfl
theorem p_beql:vbin P N all K E .eql T cy d rest env s (.bool t) (.bool u)=((match (qi P T).k with|.bool=>True|_=>False)∧vops P N all K E rest (put N env d (.bool (t == u))) s):=rfl
theorem p_bneq:vbin P N all K E .neq T cy d rest env s (.bool t) (.bool u)=((match (qi P T).k with|.bool=>True|_=>False)∧vops P N all K E rest (put N env d (.bool !(t == u))) s):=rfl
theorem p_ageql {xs ys:List VV}:vbin P N all K E .eql T cy d rest env s (.agg xs) (.agg ys)=vnl P N all K E d rest env s false (vagq P T xs ys):=rfl
theorem p_agneq {xs ys:List VV}:vbin P N all K E .neq T cy d rest env s (.agg xs) (.agg ys)=vnl P N all K E d rest env s true (vagq P T xs ys):=rfl
theorem p_bnil0eql:vbin P N all K E .eql T cy d rest env s (.iface T' v) (.raw w1)=(cy=true∧vnl P N all K E d rest env s false (nilB (qi P T).k (.iface T' v) (.raw w1))):=rfl
theorem p_bnil0neq:vbin P N all K E .neq T cy d rest env s (.iface T' v) (.raw w1)=(cy=true∧vnl P N all K E d rest env s true (nilB (qi P T).k (.iface T' v) (.raw w1))):=rfl
theorem p_bnil1eql:vbin P N all K E .eql T cy d rest env s (.raw v1) (.raw w1)=(cy=true∧vnl P N all K E d rest env s false (nilB (qi P T).k (.raw v1) (.raw w1))):=rfl
theorem p_bnil1neq:vbin P N all K E .neq T cy d rest env s (.raw v1) (.raw w1)=(cy=true∧vnl P N all K E d rest env s true (nilB (qi P T).k (.raw v1) (.raw w1))):=rfl
theorem p_bnil2eql:vbin P N all K E .eql T cy d rest env s (.ptr i j) (.raw w1)=(cy=true∧vnl P N all K E d rest env s false (nilB (qi P T).k (.ptr i j) (.raw w1))):=rfl
theorem p_bnil2neq:vbin P N all K E .neq T cy d rest env s (.ptr i j) (.raw w1)=(cy=true∧vnl P N all K E d rest env s true (nilB (qi P T).k (.ptr i j) (.raw w1))):=rfl
theorem p_bnil3eql {b:Nat}:vbin P N all K E .eql T cy d rest env s (.mp b) (.raw w1)=(cy=true∧vnl P N all K E d rest env s false (nilB (qi P T).k (.mp b) (.raw w1))):=rfl
theorem p_bnil3neq {b:Nat}:vbin P N all K E .neq T cy d rest env s (.mp b) (.raw w1)=(cy=true∧vnl P N all K E d rest env s true (nilB (qi P T).k (.mp b) (.raw w1))):=rfl
theorem p_nilM {k e b:Nat}:nilB (.map k e) (.mp b) (.raw (.map none))=some false:=rfl
theorem p_nilM2 {k e:Nat}:nilB (.map k e) (.raw (.map none)) (.raw (.map none))=some true:=rfl
theorem p_nilI:nilB .iface (.iface T v) (.raw .nilIface)=some false:=rfl
theorem p_nilI2:nilB .iface (.raw .nilIface) (.raw .nilIface)=some true:=rfl
theorem p_nilP:nilB .ptr (.ptr i j) (.raw (.pointer none))=some false:=rfl
theorem p_vnlf {b:Bool}:vnl P N all K E d rest env s false (some b)=vops P N all K E rest (put N env d (.bool b)) s:=rfl
theorem p_vnlt {b:Bool}:vnl P N all K E d rest env s true (some b)=vops P N all K E rest (put N env d (.bool !b)) s:=rfl
theorem p_isC {v:Value}:(Operand.const v).isConst=true:=rfl
theorem e_typeAssert {b:Bool}:vops P N all K E (⟨d,.typeAssert x T' T b,ty,p,af,none⟩::rest) env s=(b=true∧(match (qi P T).k with|.iface=>False|.other=>False|_=>True)∧vta P N all K E d rest env s T (rd env x)):=by
 simp only[vops,vstep,vta]
 cases rd env x<;>rfl
theorem p_ta:vta P N all K E d rest env s T (.iface T' v)=(T'=T∧vops P N all K E rest (put N env d (.tup [v,.bool true])) s):=rfl
theorem p_not:vun P N all K E .not d rest env s (.bool t)=vops P N all K E rest (put N env d (.bool !t)) s:=rfl
theorem p_neg:vun P N all K E .neg d rest env s (.int k q)=vops P N all K E rest (put N env d (.int k (k.wrap (0 - q)))) s:=rfl
theorem p_fa1:vfldA P N all K E d rest env s (.eptr cs) (some (i,j,t))=(i≤cs.length∧vops P N all K E rest (put N env d (.eptr (cs.drop i))) s):=rfl
theorem p_fa2:vfldA P N all K E d rest env s (.ptr n j) (some (i,n',t))=vops P N all K E rest (put N env d (.ptr n (j+i))) s:=rfl
theorem p_f:vfld P N all K E d rest env s (.agg cs) (some (i,j,t))=vput P N all K E d rest env s (partOf cs i j t):=rfl
theorem p_ext:vext P N all K E d rest env s (.tup xs) i=vput P N all K E d rest env s xs[i]?:=rfl
theorem p_pan:vpan E env s (.iface T v)=E (.iface T v) env s:=rfl
theorem p_agg:vagg P N all K E d rest env s (some cs)=vops P N all K E rest (put N env d (.agg cs)) s:=rfl
theorem p_row {e:TypeId}{sz:Nat}:vrowB P N all K E d rest env s n e sz false (some l)=vops P N all K E rest (put N env d (.lst l (ownLit n))) s:=rfl
theorem p_rowM {e:TypeId}{sz:Nat}:vrowB P N all K E d rest env s n e sz true (some l)=(0<n∧∀b,s b=.free→vops P N all K E rest (put N env d (.mrw b n)) (s.set b (.row e sz l.flatten))):=rfl
theorem p_ol0:ownLit 0=.no:=rfl
theorem p_olS:ownLit (n+1)=.full:=rfl
theorem p_call:vcallD P N all K E d rest env s (.fn f cs) xs=vcall2 P N all K E d rest env s f (xs++cs):=by
 unfold vcallD vcall vcall2
 apply propext
 constructor
 ·rintro⟨g,caps,Q,h,rest⟩
  injection h with h1 h2
  subst h1;subst h2
  exact⟨Q,rest⟩
 ·rintro⟨Q,rest⟩
  exact⟨f,cs,Q,rfl,rest⟩
theorem p_gt:vgd P N all K E (.bool true) true d op ty p af rest env s=vops P N all K E (⟨d,op,ty,p,af,none⟩::rest) env s:=by simp[vgd]
theorem p_gf:vgd P N all K E (.bool false) false d op ty p af rest env s=vops P N all K E (⟨d,op,ty,p,af,none⟩::rest) env s:=by simp[vgd]
theorem p_gtf:vgd P N all K E (.bool true) false d op ty p af rest env s=vops P N all K E rest (put N env d (.tup [])) s:=by simp[vgd]
theorem p_gft:vgd P N all K E (.bool false) true d op ty p af rest env s=vops P N all K E rest (put N env d (.tup [])) s:=by simp[vgd]
theorem p_gu:vgd P N all K E (.tup xs) t d op ty p af rest env s=vops P N all K E rest (put N env d (.tup [])) s:=by simp[vgd]
def nthD:List Oper→Nat→Option Tmp
 |[],_=>none
 |o::_,0=>o.dst
 |_::l,n+1=>nthD l n
theorem nthD_eq:∀(l:List Oper) (j:Nat),nthD l j=(l[j]?).bind (·.dst)
 |[],j=>by simp[nthD]
 |o::l,0=>by simp[nthD]
 |o::l,j+1=>by simp[nthD,nthD_eq l j]
def yvd (env:Env):Option Tmp→VV
 |some t=>env t
 |none=>.tup []
theorem p_yv:yv all env j=yvd env (nthD all j):=by
 rw[nthD_eq]
 unfold yv yvd
 cases (all[j]?).bind (·.dst)<;>rfl
theorem p_yvd:yvd env (some i)=env i:=rfl
theorem p_nth0 {g:Option (Nat×Bool)}{l:List Oper}:nthD (⟨d,op,ty,p,af,g⟩::l) 0=d:=rfl
theorem p_nthS {o:Oper}{l:List Oper}:nthD (o::l) (n+1)=nthD l n:=rfl
theorem p_quo:vint .quo k q r=if r≠0 then some (.int k (k.wrap (q.tdiv r)))else none:=rfl
theorem p_rem:vint .rem k q r=if r≠0 then some (.int k (q.tmod r))else none:=rfl
theorem p_and:vint .and k q r=some (.int k (bAnd k q r)):=rfl
theorem p_or:vint .or k q r=some (.int k (bOr k q r)):=rfl
theorem p_xor:vint .xor k q r=some (.int k (bXor k q r)):=rfl
theorem p_andNot:vint .andNot k q r=some (.int k (bAndNot k q r)):=rfl
theorem p_shl:vint .shl k q r=if 0≤r then some (.int k (k.wrap (q * 2 ^ (min r.toNat k.bits))))else none:=rfl
theorem p_shr:vint .shr k q r=if 0≤r then some (.int k (q.fdiv (2 ^ (min r.toNat k.bits))))else none:=rfl
theorem p_add:vint .add k q r=some (.int k (k.wrap (q+r))):=rfl
theorem p_sub:vint .sub k q r=some (.int k (k.wrap (q - r))):=rfl
theorem p_mul:vint .mul k q r=some (.int k (k.wrap (q * r))):=rfl
theorem p_eql:vint .eql k q r=some (.bool (decide (q=r))):=rfl
theorem p_neq:vint .neq k q r=some (.bool !(decide (q=r))):=rfl
theorem p_lss:vint .lss k q r=some (.bool (decide (q<r))):=rfl
theorem p_leq:vint .leq k q r=some (.bool (decide (q≤r))):=rfl
theorem p_gtr:vint .gtr k q r=some (.bool (decide (r<q))):=rfl
theorem p_geq:vint .geq k q r=some (.bool (decide (r≤q))):=rfl
theorem p_ld1:vload Q (.eptr cs) s=partOf cs 0 Q.sz Q.k.agg:=rfl
def vloadC (Q:QI)(off:Nat):Cell→Option VV
 |.obj _ xs=>partOf xs off Q.sz Q.k.agg
 |.pk _ xs _=>partOf xs off Q.sz Q.k.agg
 |.row _ _ xs=>partOf xs off Q.sz Q.k.agg
 |_=>none
theorem p_ld2:vload Q (.ptr i j) s=vloadC Q j (s i):=by
 unfold vload vloadC
 simp only
 cases s i<;>rfl
theorem p_ld3:vloadC Q j (.obj T xs)=partOf xs j Q.sz Q.k.agg:=rfl
theorem p_ld5 {sz:Nat}:vloadC Q j (.row T sz xs)=partOf xs j Q.sz Q.k.agg:=rfl
theorem p_ld4 {rs:List (Nat×TypeId×Nat)}:vloadC Q j (.pk T xs rs)=partOf xs j Q.sz Q.k.agg:=rfl
def vstoreC (Q:QI)(b off:Nat)(x:VV)(s:St):Cell→Option St
 |.obj T xs=>if x.cells.length=Q.sz∧0<Q.sz∧off+Q.sz≤xs.length∧x.cells.all VV.one=true then some (s.set b (.obj T (splice xs off x.cells)))else none
 |.pk T xs rs=>if x.cells.length=Q.sz∧0<Q.sz∧off+Q.sz≤xs.length∧x.cells.all VV.one=true then some (s.set b (.pk T (splice xs off x.cells) (keepR off Q.sz rs)))else none
 |.row T sz xs=>if x.cells.length=Q.sz∧0<Q.sz∧off+Q.sz≤xs.length∧x.cells.all VV.one=true then some (s.set b (.row T sz (splice xs off x.cells)))else none
 |_=>none
theorem p_st:vstore Q (.ptr i j) v s=vstoreC Q i j v s (s i):=by
 unfold vstore vstoreC
 simp only
 cases s i<;>rfl
theorem p_st2:vstoreC Q i j v s (.obj T xs)=if v.cells.length=Q.sz∧0<Q.sz∧j+Q.sz≤xs.length∧v.cells.all VV.one=true then some (s.set i (.obj T (splice xs j v.cells)))else none:=rfl
theorem p_st4 {sz:Nat}:vstoreC Q i j v s (.row T sz xs)=if v.cells.length=Q.sz∧0<Q.sz∧j+Q.sz≤xs.length∧v.cells.all VV.one=true then some (s.set i (.row T sz (splice xs j v.cells)))else none:=rfl
theorem p_st3 {rs:List (Nat×TypeId×Nat)}:vstoreC Q i j v s (.pk T xs rs)=if v.cells.length=Q.sz∧0<Q.sz∧j+Q.sz≤xs.length∧v.cells.all VV.one=true then some (s.set i (.pk T (splice xs j v.cells) (keepR j Q.sz rs)))else none:=rfl
theorem p_keep0:keepR i n []=[]:=rfl
theorem p_keep1 {r:Nat×TypeId×Nat}{rs:List (Nat×TypeId×Nat)}:keepR i n (r::rs)=if r.1<i∨i+n≤r.1 then r::keepR i n rs else keepR i n rs:=by simp only[keepR,List.filter_cons,Bool.or_eq_true,decide_eq_true_eq]
theorem p_set {c:Cell}:St.set s i c j=if j=i then c else s j:=rfl
theorem p_part:partOf cs i j t=if i+j≤cs.length then(if t then some (.agg ((cs.drop i).take j))else if j=1 then cs[i]? else none)else none:=rfl
theorem p_sagg:QK.struct.agg=true:=rfl
theorem p_aagg:(QK.array i T).agg=true:=rfl
theorem p_bagg:QK.bool.agg=false:=rfl
theorem p_iagg:(QK.int k).agg=false:=rfl
theorem p_tagg:QK.str.agg=false:=rfl
theorem p_lagg:(QK.slice T).agg=false:=rfl
theorem p_magg:(QK.map T T').agg=false:=rfl
theorem p_pagg:QK.ptr.agg=false:=rfl
theorem p_fagg:QK.iface.agg=false:=rfl
theorem p_uagg:QK.func.agg=false:=rfl
theorem p_cag:(VV.agg cs).cells=cs:=rfl
theorem p_cin:(VV.int k q).cells=[.int k q]:=rfl
theorem p_cbo:(VV.bool t).cells=[.bool t]:=rfl
theorem p_cst:(VV.str sa).cells=[.str sa]:=rfl
theorem p_cls:(VV.lst l o).cells=[.lst l o]:=rfl
theorem p_cpt:(VV.ptr i j).cells=[.ptr i j]:=rfl
theorem p_cep:(VV.eptr cs).cells=[.eptr cs]:=rfl
theorem p_cfn:(VV.fn f cs).cells=[.fn f cs]:=rfl
theorem p_cmp:(VV.mp i).cells=[.mp i]:=rfl
theorem p_cra {v:Value}:(VV.raw v).cells=[.raw v]:=rfl
theorem p_cif:(VV.iface T v).cells=[.iface T v]:=rfl
theorem p_oin:(VV.int k q).one=true:=rfl
theorem p_obo:(VV.bool t).one=true:=rfl
theorem p_ost:(VV.str sa).one=true:=rfl
theorem p_ols:(VV.lst l o).one=true:=rfl
theorem p_opt:(VV.ptr i j).one=true:=rfl
theorem p_oep:(VV.eptr cs).one=true:=rfl
theorem p_ofn:(VV.fn f cs).one=true:=rfl
theorem p_omp:(VV.mp i).one=true:=rfl
theorem p_oif:(VV.iface T v).one=true:=rfl
theorem p_vidx {sz:Nat}{bt:Nat}{zo:Bool}{zz:List VV}:vidx ⟨.slice T,j,bt,zo,zz⟩ sz (.lst l o) (.int k q)=if 0≤q then(l[q.toNat]?).bind fun cs=>if cs.length=sz∧0<sz then some (.eptr cs)else none else none:=rfl
theorem p_vidxm {sz bt m:Nat}{zo:Bool}{zz:List VV}:vidx ⟨.slice T,j,bt,zo,zz⟩ sz (.msl i m) (.int k q)=if 0≤q∧q.toNat<m∧sz=1 then some (.ptr i q.toNat)else none:=rfl
theorem p_vidxr {sz bt m:Nat}{zo:Bool}{zz:List VV}:vidx ⟨.slice T,j,bt,zo,zz⟩ sz (.mrw i m) (.int k q)=if 0≤q∧q.toNat<m∧0<sz then some (.ptr i (q.toNat * sz))else none:=rfl
theorem p_vidxe {sz bt m sz2:Nat}{zo:Bool}{zz cs:List VV}:vidx ⟨.array m T,sz2,bt,zo,zz⟩ sz (.eptr cs) (.int k q)=if 0≤q∧q.toNat<m∧0<sz then some (.eptr (cs.drop (q.toNat * sz)))else none:=rfl
theorem p_vidxa {sz bt m sz2 off:Nat}{zo:Bool}{zz:List VV}:vidx ⟨.array m T,sz2,bt,zo,zz⟩ sz (.ptr i off) (.int k q)=if 0≤q∧q.toNat<m∧0<sz then some (.ptr i (off+q.toNat * sz))else none:=rfl
theorem p_lenr {sz bt m:Nat}{zo:Bool}{zz:List VV}:vlen ⟨.slice T,sz,bt,zo,zz⟩ (.mrw i m) s=some (.int .i64 m):=rfl
theorem p_lenn {sz bt:Nat}{zo:Bool}{zz:List VV}:vlen ⟨.slice T,sz,bt,zo,zz⟩ (.raw (.slice none 0 0)) s=some (.int .i64 0):=rfl
theorem p_omr {m:Nat}:(VV.mrw i m).one=true:=rfl
theorem p_cmr {m:Nat}:(VV.mrw i m).cells=[.mrw i m]:=rfl
theorem p_slr {sz bt m:Nat}{zo:Bool}{zz:List VV}{qe:QI}{lo hi:Option VV}:vslice ⟨.slice T,sz,bt,zo,zz⟩ qe (.mrw i m) lo hi =
  match vbound lo 0,vbound hi m with
  |some a,some b=>if a=0∧b≤m∧0<qe.sz then some (.mrw i b)else none
  |_,_=>none:=rfl
theorem p_lenm {sz bt m:Nat}{zo:Bool}{zz:List VV}:vlen ⟨.slice T,sz,bt,zo,zz⟩ (.msl i m) s=some (.int .i64 m):=rfl
theorem p_oms {m:Nat}:(VV.msl i m).one=true:=rfl
theorem p_cms {m:Nat}:(VV.msl i m).cells=[.msl i m]:=rfl
theorem p_vatA {qe:QI}{e:TypeId}{m sz:Nat}{bt:Nat}{zo:Bool}{zz:List VV}{xs:List VV}:vat ⟨.array m e,sz,bt,zo,zz⟩ qe (.agg xs) (.int k q)=if 0≤q∧q.toNat<m∧qe.sz=1∧qe.k.agg=false then xs[q.toNat]? else none:=rfl
theorem p_vat {qe:QI}{sz:Nat}{bt:Nat}{zo:Bool}{zz:List VV}:vat ⟨.str,sz,bt,zo,zz⟩ qe (.str sa) (.int k q)=if 0≤q then(sa[q.toNat]?).map fun c=>.int .u8 (c.toNat:Int)else none:=rfl
theorem p_lens {sz:Nat}{bt:Nat}{zo:Bool}{zz:List VV}:vlen ⟨.str,sz,bt,zo,zz⟩ (.str sa) s=some (.int .i64 sa.length):=rfl
theorem p_lenl {sz:Nat}{bt:Nat}{zo:Bool}{zz:List VV}:vlen ⟨.slice T,sz,bt,zo,zz⟩ (.lst l o) s=some (.int .i64 l.length):=rfl
theorem p_slst {sz:Nat}{bt:Nat}{zo:Bool}{zz:List VV}{qe:QI}{lo hi:Option VV}:vslice ⟨.slice T,sz,bt,zo,zz⟩ qe (.lst l o) lo hi =
  match vbound lo 0,vbound hi l.length with
  |some a,some b=>if a≤b∧b≤l.length∧0<qe.sz∧(∀x,x∈l→x.length=qe.sz)then some (.lst ((l.take b).drop a) .no)else none
  |_,_=>none:=rfl
theorem p_sstr {sz:Nat}{bt:Nat}{zo:Bool}{zz:List VV}{qe:QI}{lo hi:Option VV}:vslice ⟨.str,sz,bt,zo,zz⟩ qe (.str sa) lo hi =
  match vbound lo 0,vbound hi sa.length with
  |some a,some b=>if a≤b∧b≤sa.length then some (.str ((sa.take b).drop a))else none
  |_,_=>none:=rfl
theorem p_bd0:vbound none n=some n:=rfl
theorem p_bd1:vbound (some (.int k q)) n=if 0≤q then some q.toNat else none:=rfl
theorem p_eta {e:TypeId}{m sz bt:Nat}{zo:Bool}{zz:List VV}:elemT ⟨.array m e,sz,bt,zo,zz⟩=e:=rfl
theorem p_et {sz:Nat}{bt:Nat}{zo:Bool}{zz:List VV}:elemT ⟨.slice T,sz,bt,zo,zz⟩=T:=rfl
theorem p_em {sz:Nat}{bt:Nat}{zo:Bool}{zz:List VV}:elemT ⟨.map T T',sz,bt,zo,zz⟩=T':=rfl
theorem p_es {sz:Nat}{bt:Nat}{zo:Bool}{zz:List VV}:elemT ⟨.str,sz,bt,zo,zz⟩=0:=rfl
theorem p_km {sz:Nat}{bt:Nat}{zo:Bool}{zz:List VV}:keyT ⟨.map T T',sz,bt,zo,zz⟩=T:=rfl
theorem p_app {q':QK}{e:TypeId}:vapp P N all K E d rest env s T T q' e Q (.lst l o) (.lst l' o')=vappend (fun z s'=>vops P N all K E rest (put N env d z) s') e Q l l' o s:=by
 simp[vapp]
theorem p_ptreq {b i b' j:Nat}:vbin P N all K E .eql T cy d rest env s (.ptr b i) (.ptr b' j)=(pok P T=true∧b=b'∧i=j∧vops P N all K E rest (put N env d (.bool true)) s):=rfl
theorem p_ptrne {b i b' j:Nat}:vbin P N all K E .neq T cy d rest env s (.ptr b i) (.ptr b' j)=(pok P T=true∧b=b'∧i=j∧vops P N all K E rest (put N env d (.bool false)) s):=rfl
theorem p_conv1:vconv P T T' (.int k q) s=match (qi P T).k,(qi P T').k with|.int _,.int k'=>some (.int k' (k'.wrap q))|_,_=>none:=rfl
theorem p_conv2 {b i:Nat}:vconv P T T' (.ptr b i) s=match s b with|.obj U xs=>if cvok P T T' U xs.length i=true then some (.ptr b i)else none|_=>none:=rfl
theorem unbytes_bytesV:∀l:List UInt8,unbytes (bytesV l)=some l
 |[]=>rfl
 |c::l=>by
  have h:(c.toNat:Int)<256:=by have:=c.toNat_lt;omega
  have e:UInt8.ofNat (c.toNat:Int).toNat=c:=by simp
  have:=unbytes_bytesV l
  simp only[bytesV,List.map_cons,unbytes]at this ⊢
  rw[if_pos ⟨by omega,h⟩,this,e];rfl
theorem p_conv3:vconv P T T' (.lst (bytesV sa) o) s=match (qi P T).k,(qi P T').k with|.slice e,.str=>if isU8 (qi P e).k=true then some (.str sa)else none|_,_=>none:=by
 simp only[vconv,unbytes_bytesV];rfl
theorem p_isu8:isU8 (.int .u8)=true:=rfl
theorem p_apps {e:TypeId}:vapp P N all K E d rest env s T T' .str e Q (.lst l o) (.str sa)=vappend (fun z s'=>vops P N all K E rest (put N env d z) s') e Q l (bytesV sa) o s:=by
 simp[vapp,QK.isStr]
theorem p_env0:env0 (v::xs) 0=v:=rfl
theorem p_envS:env0 (v::xs) (n+1)=env0 xs n:=by simp[env0]
theorem p_envN:env0 [] n=.tup []:=rfl
theorem p_spl {α:Type}{a b:List α}:splice a n b=a.take n++b++a.drop (n+b.length):=rfl
theorem p_vres1 {r:ResultVar}:vres P env s [r]=vone P env s r:=rfl
theorem p_vres0:vres P env s []=some (.tup []):=rfl
theorem p_vres2 {r r':ResultVar}{rs:List ResultVar}:vres P env s (r::r'::rs)=(vones P env s (r::r'::rs)).map .tup:=rfl
theorem p_one1:vone P env s (.tmp i)=some (env i):=rfl
theorem p_one2:vone P env s (.cell i T)=vload (qi P T) (env i) s:=rfl
theorem p_ones0:vones P env s []=some []:=rfl
theorem p_ones1 {r:ResultVar}{rs:List ResultVar}:vones P env s (r::rs)=match vone P env s r,vones P env s rs with|some x,some xs=>some (x::xs)|_,_=>none:=rfl
theorem p_fill0:vfill P T cs []=some cs:=rfl
theorem p_fill1 {rest:List (Nat×VV)}:vfill P T cs ((j,v)::rest)=match qp P T j with
  |some (off,sz)=>if v.cells.length=sz∧off+sz≤cs.length∧v.cells.all VV.one=true then vfill P T (splice cs off v.cells) rest else none
  |none=>none:=rfl
theorem p_row0:vrow n i []=some []:=rfl
theorem p_row1 {rest:List (Nat×VV)}:vrow n i ((j,v)::rest)=if j=i∧v.cells.length=n∧v.cells.all VV.one=true then(vrow n (i+1) rest).map (v.cells::·)else none:=rfl
theorem p_vcond1 {x y:Code}{D:List Deferred}{kk:List Itm}{QQ:Pst}:vcond P N D (.bool true) x y kk QQ env s=Kp P N D (.code x::kk) QQ .norm env s:=vcond_true
theorem p_vcond2 {x y:Code}{D:List Deferred}{kk:List Itm}{QQ:Pst}:vcond P N D (.bool false) x y kk QQ env s=Kp P N D (.code y::kk) QQ .norm env s:=vcond_false
theorem p_itet {a b:VV}:(if true=true then a else b)=a:=rfl
theorem p_itef {a b:VV}:(if false=true then a else b)=b:=rfl
def SRet (P:Program)(f:FuncId)(xs:List VV)(s:St)(y:VV)(s':St):Prop:=SCalls P f xs s fun e t=>e=.ret y∧t=s'
def SPan (P:Program)(f:FuncId)(xs:List VV)(s:St)(y:VV)(s':St):Prop:=SCalls P f xs s fun e t=>e=.panic y∧t=s'
theorem call_ret {s':St}(hc:Callable P f)(h:SRet P f xs s v s')(hr:vops P N all K E rest (put N env d v) s'):vcall2 P N all K E d rest env s f xs:=
 ⟨_,.inl ⟨hc,h⟩,fun x t q=>by obtain⟨e,e'⟩:=q;injection e with e;subst e;subst e';exact hr,fun x t q=>by cases q.1⟩
theorem call_ext {s':St}(h:SExt P f xs s fun e t=>e=.ret v∧t=s')(hr:vops P N all K E rest (put N env d v) s'):vcall2 P N all K E d rest env s f xs:=
 ⟨_,.inr h,fun x t q=>by obtain⟨e,e'⟩:=q;injection e with e;subst e;subst e';exact hr,(fun x t q=>by cases q.1)⟩
theorem call_pan {s':St}(hc:Callable P f)(h:SPan P f xs s v s')(hr:E v env s'):vcall2 P N all K E d rest env s f xs:=
 ⟨_,.inl ⟨hc,h⟩,(fun x t q=>by cases q.1),fun x t q=>by obtain⟨e,e'⟩:=q;injection e with e;subst e;subst e';exact hr⟩
theorem fin_ret {rs:List ResultVar}{s':St}(h:vres P env s rs=some v)(hf:Fg s s'):Qf P rs (fun e t=>e=.ret v∧t=s') .ret env s:=
 ⟨v,h,v,s',Wk.refl v,hf,rfl,rfl⟩
end
def St.own (s:St)(o:Own)(T:TypeId)(sz n:Nat):St:=
 match o with
 |.at_ b=>s.set b (.vec T sz n)
 |_=>s
def OwnOk (s:St)(o:Own)(n:Nat):Prop:=
 match o with
 |.no=>False
 |.full=>n=0
 |.at_ b=>s b=.free
theorem Fg.own {s:St}{o:Own}{T:TypeId}{sz n m:Nat}(h:OwnOk s o m):Fg (s.own o T sz n) s:=by
 cases o with
 |no=>exact Fg.refl s
 |full=>exact Fg.refl s
 |at_ b=>exact Fg.of_set _ h
attribute [go_sem ↓] e_nil e_move e_assign e_guard e_pick e_alloc e_box e_build e_buildSlice e_load e_store e_nilCheck e_binOp e_unOp e_fieldAddr e_field e_indexAddr e_index e_slice e_makeInterface e_makeFunc e_makeMap e_lookup e_mapUpdate e_insert e_extract e_panic e_call e_len e_min e_max e_append
attribute [go_sem] p_put_none p_put_some p_upd p_tmp p_const p_func p_cint p_cbool p_cstr p_cnil p_vput p_vputS p_pick p_nil1 p_nil2 p_bini p_sadd p_seql p_sneq p_beql p_bneq p_not p_neg p_quo p_rem p_and p_or p_xor p_andNot p_shl p_shr p_fa1 p_fa2 p_f p_ext p_pan p_agg p_row p_rowM p_mutL p_mutT p_andT p_andF p_call p_gt p_gf p_gtf p_gft p_gu p_yv p_add p_sub p_mul p_eql p_neq p_lss p_leq p_gtr p_geq p_ld1 p_ld2 p_ld3 p_st p_st2 p_st3 p_ld4 p_keep0 p_keep1 p_set p_part p_sagg p_aagg p_bagg p_iagg p_tagg p_lagg p_magg p_pagg p_fagg p_uagg p_cag p_cin p_cbo p_cst p_cls p_cpt p_cep p_cfn p_cmp p_cra p_cif p_oin p_obo p_ost p_ols p_opt p_oep p_ofn p_omp p_oif p_vidx p_vat p_lens p_lenl p_slst p_sstr p_bd0 p_bd1 p_et p_em p_es p_km p_app p_apps p_ol0 p_olS p_ptreq p_ptrne p_conv1 p_conv2 p_conv3 p_isu8 p_env0 p_envS p_envN p_spl p_vres1 p_vres0 p_vres2 p_one1 p_one2 p_ones0 p_ones1 p_fill0 p_fill1 p_row0 p_row1 p_vcond1 p_vcond2 p_itet p_itef
attribute [go_sem ↓] e_typeAssert e_convert e_makeSlice
attribute [go_sem] p_bnil3eql p_bnil3neq p_nilM p_nilM2
attribute [go_sem] p_mk p_mkw p_vatA p_eta p_vidxm p_lenm p_oms p_cms Int.toNat_natCast p_ld5 p_st4 p_vidxr p_vidxa p_vidxe p_lenr p_lenn p_omr p_cmr p_slr
attribute [go_sem] p_bnil0eql p_bnil0neq p_bnil1eql p_bnil1neq p_bnil2eql p_bnil2neq p_nilI p_nilI2 p_nilP p_vnlf p_vnlt p_isC p_ta
attribute [go_sem] p_yvd p_nth0 p_nthS p_ageql p_agneq vagq eqF eq1 Option.bind_some Option.bind_none Option.map_some Option.map_none
theorem wrap_i64 {n:Int}(h1:-9223372036854775808≤n)(h2:n≤9223372036854775807):IntKind.i64.wrap n=n:=by
 simp only[IntKind.wrap,IntKind.bits,IntKind.signed]
 simp
 omega
attribute [go_sem] wrap_i64 Int.cast_ofNat_Int List.size_toArray
attribute [go_sem] decide_true decide_false Bool.not_true Bool.not_false and_true true_and Bool.false_eq_true List.length_cons List.length_nil List.getElem?_cons_zero List.getElem?_cons_succ Option.bind_some Option.map_some Option.map_none Option.bind_none List.map_cons List.map_nil List.all_cons List.all_nil Bool.and_true Bool.true_and Bool.and_false Bool.false_and List.take_succ_cons List.take_zero List.drop_succ_cons List.drop_zero List.cons_append List.nil_append List.append_nil Int.toNat_natCast List.drop_nil List.take_nil Bool.and_self Nat.zero_add Nat.add_zero Int.zero_add Int.add_zero
end Go.Proofs.YtgdbgfjhenobdaaGreatDoor
