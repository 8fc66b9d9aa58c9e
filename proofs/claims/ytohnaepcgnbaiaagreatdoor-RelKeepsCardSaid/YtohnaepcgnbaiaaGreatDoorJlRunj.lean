/- Walks. Conditions: in the statements. -/
import Derived.Test.YtohnaepcgnbaiaaGreatDoorJlSoundGj
set_option linter.unusedSimpArgs false
set_option linter.unusedVariables false
set_option linter.defProp false
namespace Go.Proofs.YtohnaepcgnbaiaaGreatDoor
open Go.RowKit
section
variable (P : Program) (N : Nat) (all : List Oper) (K : Env -> St -> Prop) (E : VV -> Env -> St -> Prop)
def eW (d:Option Tmp)(rest:List Oper)(env:Env)(s:St):Option VV->Prop
 |some z=>aw P N all K E rest (put N env d z) s
 |none=>False
def mU (d:Option Tmp)(rest:List Oper)(env:Env):Option St->Prop
 |some s=>aw P N all K E rest (put N env d (.tup [])) s
 |none=>False
def ub (d:Option Tmp)(rest:List Oper)(env:Env)(s:St)(c a b:VV):Prop:=
 match c with
 |.bool t=>aw P N all K E rest (put N env d (if t then a else b)) s
 |_=>False
def G5 (d:Option Tmp)(rest:List Oper)(env:Env)(s:St)(x:VV):Prop:=
 (match x with|.ptr _ _=>True|.eptr _=>True|.fn _ _=>True|.mp _=>True|_=>False)/\aw P N all K E rest (put N env d x) s
def vta (d:Option Tmp)(rest:List Oper)(env:Env)(s:St)(T:TypeId):VV->Prop
 |.iface T' v=>T'=T/\aw P N all K E rest (put N env d (.tup [v,.bool true])) s
 |_=>False
def vnl (d:Option Tmp)(rest:List Oper)(env:Env)(s:St)(neg:Bool):Option Bool->Prop
 |some b=>aw P N all K E rest (put N env d (.bool (if neg then !b else b))) s
 |none=>False
def vmk (d:Option Tmp)(rest:List Oper)(env:Env)(s:St)(k:QK)(e:TypeId)(q:QI)(x y:VV):Prop:=
 match x,y,q.z with
 |.int _ n,.int _ m,[z]=>n=m/\0<=n/\n * q.bt<=140737488355328/\n<=140737488355328/\(match k with|.slice _=>True|_=>False)/\q.zok=true /\
  ∀b,New s b->aw P N all K E rest (put N env d (.msl b n.toNat)) (s.set b (.obj e (List.replicate n.toNat z)))
 |.int _ n,.int _ m,z1::z2::zs=>n=m/\0<n/\n * q.bt<=140737488355328/\n * q.sz<=140737488355328/\(match k with|.slice _=>True|_=>False)/\q.zok=true /\
  ∀b,New s b->aw P N all K E rest (put N env d (.mrw b n.toNat)) (s.set b (.row e q.sz (List.replicate n.toNat (z1::z2::zs)).flatten))
 |_,_,_=>False
def iI (op:BinOp)(T:TypeId)(cy:Bool)(d:Option Tmp)(rest:List Oper)(env:Env)(s:St)(x y:VV):Prop:=
  match x,y with
  |.int k a,.int k' b=>(k=k'\/yJ op=true)/\eW P N all K E d rest env s (bF op k a b)
  |.str a,.str b=>
    (match op with
     |.add=>a.length+b.length<=9223372036854775807/\aw P N all K E rest (put N env d (.str (a++b))) s
     |.eql=>aw P N all K E rest (put N env d (.bool (decide (a=b)))) s
     |.neq=>aw P N all K E rest (put N env d (.bool !(decide (a=b)))) s
     |_=>False)
  |.bool a,.bool b=>(match (qi P T).k with|.bool=>True|_=>False) /\
    (match op with
     |.eql=>aw P N all K E rest (put N env d (.bool (a == b))) s
     |.neq=>aw P N all K E rest (put N env d (.bool !(a == b))) s
     |_=>False)
  |.ptr b i,.ptr b' j=>pok P T=true/\b=b'/\i=j /\
    (match op with
     |.eql=>aw P N all K E rest (put N env d (.bool true)) s
     |.neq=>aw P N all K E rest (put N env d (.bool false)) s
     |_=>False)
  |.agg xs,.agg ys=>
    (match op with
     |.eql=>vnl P N all K E d rest env s false (jz P T xs ys)
     |.neq=>vnl P N all K E d rest env s true (jz P T xs ys)
     |_=>False)
  |x,y=>cy=true /\
    (match op with
     |.eql=>vnl P N all K E d rest env s false (eG (qi P T).k x y)
     |.neq=>vnl P N all K E d rest env s true (eG (qi P T).k x y)
     |_=>False)
def vun (op:UnOp)(d:Option Tmp)(rest:List Oper)(env:Env)(s:St)(x:VV):Prop:=
 match op,x with
 |.not,.bool b=>aw P N all K E rest (put N env d (.bool !b)) s
 |.neg,.int k n=>aw P N all K E rest (put N env d (.int k (k.wrap (0 - n)))) s
 |_,_=>False
def zx (d:Option Tmp)(rest:List Oper)(env:Env)(s:St)(x:VV)(q:Option (Nat×Nat×Bool)):Prop:=
 match x,q with
 |.eptr cs,some (off,_,_)=>off<=cs.length/\aw P N all K E rest (put N env d (.eptr (cs.drop off))) s
 |.ptr b o',some (off,_,_)=>aw P N all K E rest (put N env d (.ptr b (o'+off))) s
 |_,_=>False
def G6 (d:Option Tmp)(rest:List Oper)(env:Env)(s:St)(x:VV)(q:Option (Nat×Nat×Bool)):Prop:=
 match x,q with
 |.agg cs,some (off,sz,ag)=>eW P N all K E d rest env s (cF cs off sz ag)
 |_,_=>False
def G7 (d:Option Tmp)(rest:List Oper)(env:Env)(s:St)(x:VV)(i:Nat):Prop:=
 match x with
 |.tup xs=>eW P N all K E d rest env s xs[i]?
 |_=>False
def Nj (env:Env)(s:St)(x:VV):Prop:=match x with|.iface T y=>E (.iface T y) env s|_=>False
def Nk (d:Option Tmp)(rest:List Oper)(env:Env)(s:St):Option (Tb)->Prop
 |some cs=>aw P N all K E rest (put N env d (.agg cs)) s
 |none=>False
def wu (d:Option Tmp)(rest:List Oper)(env:Env)(s:St)(n:Nat)(e:TypeId)(sz:Nat)(m:Bool):Option (Ta)->Prop
 |some xs=>match m with
  |true=>0<n/\∀b,s b=.free->aw P N all K E rest (put N env d (.mrw b n)) (s.set b (.row e sz xs.flatten))
  |false=>aw P N all K E rest (put N env d (.lst xs (jm n))) s
 |none=>False
def r7 (d:Option Tmp)(rest:List Oper)(env:Env)(s:St)(T T':TypeId)(q':QK)(e:TypeId)(q:QI)(x y:VV):Prop:=
 match x,y with
 |.lst xs ox,.lst ys _=>T=T'/\fe (fun z s'=>aw P N all K E rest (put N env d z) s') e q xs ys ox s
 |.mrw b n,.lst ys _=>T=T'/\gW (fun z s'=>aw P N all K E rest (put N env d z) s') e q b n ys s
 |.raw (.slice none 0 0),.lst ys _=>T=T'/\gX (fun z s'=>aw P N all K E rest (put N env d z) s') e q ys s
 |.lst xs ox,.str l=>q'.isStr=true/\fe (fun z s'=>aw P N all K E rest (put N env d z) s') e q xs (cC l) ox s
 |_,_=>False
def uf (d:Option Tmp)(rest:List Oper)(env:Env)(s:St)(f:VV)(xs:Tb):Prop:=
 wC P N E d (aw P N all K E rest) env s f xs
def mX (d:Option Tmp)(rest:List Oper)(env:Env)(s:St)(f:FuncId)(xs:Tb):Prop:=
 ∃(Q:SEnd->St->Prop),B2 P f xs s Q /\
  (∀x s',Q (.ret x) s'->aw P N all K E rest (put N env d x) s')/\(∀x s',Q (.panic x) s'->E x env s')
def vgd (g:VV)(want:Bool)(d:Option Tmp)(op:Op)(ty:TypeId)(p:String)(af:Array Edge)(rest:List Oper)(env:Env)(s:St):Prop:=
 match g with
 |.bool b=>if b=want then aw P N all K E (⟨d,op,ty,p,af,none⟩::rest) env s else aw P N all K E rest (put N env d (.tup [])) s
 |.tup _=>aw P N all K E rest (put N env d (.tup [])) s
 |_=>False
variable {P N all K E}
variable {d : Option Tmp} {ty T T' : TypeId} {p : String} {af : Array Edge} {rest : List Oper} {env : Env} {s : St} {x y z c a b : Operand} {i j n : Nat}
theorem PI:aw P N all K E [] env s=K env s:=rfl
theorem LQ:aw P N all K E (⟨d,.move x,ty,p,af,none⟩::rest) env s=aw P N all K E rest (put N env d (rd env x)) s:=rfl
theorem Bp:aw P N all K E (⟨d,.assign x,ty,p,af,none⟩::rest) env s=aw P N all K E rest (put N env d (rd env x)) s:=rfl
theorem EX {op:Op}{w:Bool}:aw P N all K E (⟨d,op,ty,p,af,some (j,w)⟩::rest) env s=vgd P N all K E (yv all env j) w d op ty p af rest env s:=by
 simp only[aw,vgd,gU]
 cases yv all env j<;>rfl
theorem LP:aw P N all K E (⟨d,.pick c a b,ty,p,af,none⟩::rest) env s=ub P N all K E d rest env s (rd env c) (rd env a) (rd env b):=by
 simp only[aw,aP,ub]
 cases rd env c<;>rfl
theorem E1:aw P N all K E (⟨d,.alloc T,ty,p,af,none⟩::rest) env s=((qi P T).zok=true/\∀b,New s b->aw P N all K E rest (put N env d (.ptr b 0)) (s.set b (.obj T (qi P T).z))):=rfl
theorem PN:aw P N all K E (⟨d,.box T x,ty,p,af,none⟩::rest) env s=((rd env x).cells.all VV.one=true/\∀b,New s b->aw P N all K E rest (put N env d (.ptr b 0)) (s.set b (.obj T (rd env x).cells))):=rfl
theorem EZ {parts:Array (Nat×Operand)}:aw P N all K E (⟨d,.build T parts,ty,p,af,none⟩::rest) env s =
  (fok P T=true/\(qi P T).zok=true/\Nk P N all K E d rest env s (gL P T (qi P T).z (parts.toList.map fun q=>(q.1,rd env q.2)))):=by
 simp only[aw,aP]
 cases gL P T (qi P T).z (parts.toList.map fun q=>(q.1,rd env q.2))<;>rfl
theorem rA {parts:Array (Nat×Operand)}:aw P N all K E (⟨d,.buildSlice T n parts,ty,p,af,none⟩::rest) env s =
  (parts.size=n/\(qi P (aE (qi P T))).zok=true/\n * (qi P (aE (qi P T))).sz<=16777216/\(match (qi P T).k with|.slice _=>True|_=>False) /\
   wu P N all K E d rest env s n (aE (qi P T)) (qi P (aE (qi P T))).sz (v7 T p) (gj (qi P (aE (qi P T))).sz 0 (parts.toList.map fun q=>(q.1,rd env q.2)))):=by
 simp only[aw,aP]
 cases gj (qi P (aE (qi P T))).sz 0 (parts.toList.map fun q=>(q.1,rd env q.2))with
 |none=>rfl
 |some xs=>cases hm:v7 T p<;>(simp only[dS,wu,hm,Bool.false_eq_true,if_false,if_true];try rfl)
theorem KA {T:TypeId}{p:String}:v7 T p=(Lx T && (false)):=rfl
theorem Kz {T:TypeId}:Lx T=(false):=rfl
theorem Ll {b:Bool}:(true && b)=b:=rfl
theorem Lm {b:Bool}:(false && b)=false:=rfl
theorem LR:aw P N all K E (⟨d,.load T a,ty,p,af,none⟩::rest) env s=eW P N all K E d rest env s (fJ (qi P T) (rd env a) s):=by
 simp only[aw,aP]
 cases fJ (qi P T) (rd env a) s<;>rfl
theorem ET:aw P N all K E (⟨d,.store T a x,ty,p,af,none⟩::rest) env s=mU P N all K E d rest env (gR (qi P T) (rd env a) (rd env x) s):=by
 simp only[aw,aP]
 cases gR (qi P T) (rd env a) (rd env x) s<;>rfl
theorem vx:aw P N all K E (⟨d,.nilCheck x,ty,p,af,none⟩::rest) env s=G5 P N all K E d rest env s (rd env x):=rfl
theorem E0 {op:BinOp}:aw P N all K E (⟨d,.binOp op T x y T',ty,p,af,none⟩::rest) env s=iI P N all K E op T y.isConst d rest env s (rd env x) (rd env y):=by
 simp only[aw,aP,iI]
 have hn:∀(u v:VV) (b:Bool),dS (fun c=>aw P N all K E rest (put N env d (.bool (if b then !c else c))) s) (eG (qi P T).k u v)=vnl P N all K E d rest env s b (eG (qi P T).k u v):=fun u v b=>by
  cases eG (qi P T).k u v<;>rfl
 have hm:∀(us vs:Tb) (b:Bool),dS (fun c=>aw P N all K E rest (put N env d (.bool (if b then !c else c))) s) (jz P T us vs)=vnl P N all K E d rest env s b (jz P T us vs):=fun u v b=>by
  cases jz P T u v<;>rfl
 have hm1:=fun u v=>hm u v false
 have hm2:=fun u v=>hm u v true
 have hn1:=fun u v=>hn u v false
 have hn2:=fun u v=>hn u v true
 simp only[Bool.false_eq_true,if_false,if_true]at hn1 hn2 hm1 hm2
 cases rd env x<;>cases rd env y<;>first|rfl|(rename_i k a k' b;simp only;cases bF op k a b<;>rfl)|(simp only[hn1,hn2];cases op<;>rfl)|(simp only[hm1,hm2];cases op<;>rfl)
theorem yO:aw P N all K E (⟨d,.convert T T' x,ty,p,af,none⟩::rest) env s=eW P N all K E d rest env s (er P T T' (rd env x) s):=by
 simp only[aw,aP]
 cases er P T T' (rd env x) s<;>rfl
theorem LO {op:UnOp}:aw P N all K E (⟨d,.unOp op T x,ty,p,af,none⟩::rest) env s=vun P N all K E op d rest env s (rd env x):=rfl
theorem tC:aw P N all K E (⟨d,.fieldAddr T x j,ty,p,af,none⟩::rest) env s=zx P N all K E d rest env s (rd env x) (qf P T j):=rfl
theorem EY:aw P N all K E (⟨d,.field T x j,ty,p,af,none⟩::rest) env s=G6 P N all K E d rest env s (rd env x) (qf P T j):=by
 simp only[aw,aP,G6]
 cases rd env x<;>first|rfl|skip
 rename_i cs
 rcases qf P T j with _|⟨off,sz,ag⟩
 ·rfl
 ·simp only
  cases cF cs off sz ag<;>rfl
theorem tB:aw P N all K E (⟨d,.indexAddr T x y,ty,p,af,none⟩::rest) env s=eW P N all K E d rest env s (pu (qi P T) (qi P (aE (qi P T))).sz (rd env x) (rd env y)):=by
 simp only[aw,aP]
 cases pu (qi P T) (qi P (aE (qi P T))).sz (rd env x) (rd env y)<;>rfl
theorem EW:aw P N all K E (⟨d,.index T x y,ty,p,af,none⟩::rest) env s=eW P N all K E d rest env s (vat (qi P T) (qi P (aE (qi P T))) (rd env x) (rd env y)):=by
 simp only[aw,aP]
 cases vat (qi P T) (qi P (aE (qi P T))) (rd env x) (rd env y)<;>rfl
theorem EU {lo hi:Option Operand}:aw P N all K E (⟨d,.slice T x lo hi none,ty,p,af,none⟩::rest) env s=eW P N all K E d rest env s (gS (qi P T) (qi P (aE (qi P T))) (rd env x) (lo.map (rd env)) (hi.map (rd env))):=by
 simp only[aw,aP,true_and]
 cases gS (qi P T) (qi P (aE (qi P T))) (rd env x) (lo.map (rd env)) (hi.map (rd env))<;>rfl
theorem mv:aw P N all K E (⟨d,.makeInterface T x,ty,p,af,none⟩::rest) env s=((match (qi P T).k with|.iface=>False|.other=>False|_=>True)/\aw P N all K E rest (put N env d (.iface T (rd env x))) s):=rfl
theorem vy {f:FuncId}{caps:Array Operand}:aw P N all K E (⟨d,.makeFunc (.func f) #[] caps,ty,p,af,none⟩::rest) env s=aw P N all K E rest (put N env d (.fn f (caps.toList.map (rd env)))) s:=by
 simp only[aw,aP,true_and]
theorem tA {l c:Operand}:aw P N all K E (⟨d,.makeSlice T l c,ty,p,af,none⟩::rest) env s=vmk P N all K E d rest env s (qi P T).k (aE (qi P T)) (qi P (aE (qi P T))) (rd env l) (rd env c):=rfl
theorem p_mk {k1 k2:IntKind}{T1 T2:TypeId}{sz bt:Nat}{zo:Bool}{z:VV}{n m:Int}{qk:QK}:vmk P N all K E d rest env s (.slice T1) T2 ⟨qk,sz,bt,zo,[z]⟩ (.int k1 n) (.int k2 m)=(n=m/\0<=n/\n * bt<=140737488355328/\n<=140737488355328/\True/\zo=true /\
  ∀b,New s b->aw P N all K E rest (put N env d (.msl b n.toNat)) (s.set b (.obj T2 (List.replicate n.toNat z)))):=rfl
theorem OI {k1 k2:IntKind}{T1 T2:TypeId}{sz bt:Nat}{zo:Bool}{z1 z2:VV}{zs:Tb}{n m:Int}{qk:QK}:vmk P N all K E d rest env s (.slice T1) T2 ⟨qk,sz,bt,zo,z1::z2::zs⟩ (.int k1 n) (.int k2 m)=(n=m/\0<n/\n * bt<=140737488355328/\n * sz<=140737488355328/\True/\zo=true /\
  ∀b,New s b->aw P N all K E rest (put N env d (.mrw b n.toNat)) (s.set b (.row T2 sz (List.replicate n.toNat (z1::z2::zs)).flatten))):=rfl
theorem yM:aw P N all K E (⟨d,.makeMap T none,ty,p,af,none⟩::rest) env s=(∀b,New s b->aw P N all K E rest (put N env d (.mp b)) (s.set b (.map []))):=rfl
theorem Bo {ok:Bool}:aw P N all K E (⟨d,.lookup T x y ok,ty,p,af,none⟩::rest) env s=eW P N all K E d rest env s (ez (qi P T) (qi P (aE (qi P T))) (qi P (jr (qi P T))) (rd env x) (rd env y) ok s):=by
 simp only[aw,aP]
 cases ez (qi P T) (qi P (aE (qi P T))) (qi P (jr (qi P T))) (rd env x) (rd env y) ok s<;>rfl
theorem tz:aw P N all K E (⟨d,.mapUpdate T x y z,ty,p,af,none⟩::rest) env s=mU P N all K E d rest env (gi (qi P T) (qi P (jr (qi P T))) (rd env x) (rd env y) (rd env z) s):=by
 simp only[aw,aP]
 cases gi (qi P T) (qi P (jr (qi P T))) (rd env x) (rd env y) (rd env z) s<;>rfl
theorem yN:aw P N all K E (⟨d,.extract x i,ty,p,af,none⟩::rest) env s=G7 P N all K E d rest env s (rd env x) i:=by
 simp only[aw,aP,G7]
 cases rd env x<;>first|rfl|skip
 rename_i xs
 simp only
 cases xs[i]?<;>rfl
theorem EV:aw P N all K E (⟨d,.panic x,ty,p,af,none⟩::rest) env s=Nj E env s (rd env x):=rfl
theorem LS {args:Array Operand}{ts:Array TypeId}:aw P N all K E (⟨d,.call ⟨.value x,args,ts⟩,ty,p,af,none⟩::rest) env s=uf P N all K E d rest env s (rd env x) (args.toList.map (rd env)):=rfl
theorem PM:aw P N all K E (⟨d,.call ⟨.builtin .len,#[x],#[T]⟩,ty,p,af,none⟩::rest) env s=eW P N all K E d rest env s (db (qi P T) (rd env x) s):=by
 simp only[aw,aP]
 cases db (qi P T) (rd env x) s<;>rfl
theorem PJ {ts:Array TypeId}:aw P N all K E (⟨d,.call ⟨.builtin .min,#[x,y],ts⟩,ty,p,af,none⟩::rest) env s=eW P N all K E d rest env s (be false (rd env x) (rd env y)):=by
 simp only[aw,aP]
 cases be false (rd env x) (rd env y)<;>rfl
theorem R5 {ts:Array TypeId}:aw P N all K E (⟨d,.call ⟨.builtin .max,#[x,y],ts⟩,ty,p,af,none⟩::rest) env s=eW P N all K E d rest env s (be true (rd env x) (rd env y)):=by
 simp only[aw,aP]
 cases be true (rd env x) (rd env y)<;>rfl
theorem Bq:aw P N all K E (⟨d,.call ⟨.builtin .append,#[x,y],#[T,T']⟩,ty,p,af,none⟩::rest) env s =
  ((match (qi P T).k with|.slice _=>True|_=>False)/\r7 P N all K E d rest env s T T' (qi P T').k (aE (qi P T)) (qi P (aE (qi P T))) (rd env x) (rd env y)):=by
 simp only[aw,aP,r7]
 cases rd env x<;>cases rd env y<;>rfl
variable {xs ys cs : Tb} {f : FuncId} {v w : VV} {o : Own} {t u : Bool} {k k' : IntKind} {q r : Int} {sa sb : TT} {l l' : Ta} {Q : QI} {op : Op} {n' : Nat} {o' : Own} {cy : Bool} {v1 w1 : Value}
theorem uM:put N env none v=env:=rfl
theorem uL:put N env (some i) v=if i<N then upd env i v else env:=rfl
theorem Oa:upd env i v j=if j=i then v else env j:=rfl
theorem Od:rd env (.tmp i)=env i:=rfl
theorem Eq {v:Value}:rd env (.const v)=cv v:=rfl
theorem KW:rd env (.func f)=.fn f []:=rfl
theorem Ld:cv (.int k q)=.int k q:=rfl
theorem Er:cv (.bool t)=.bool t:=rfl
theorem Lb {a:Array UInt8}:cv (.string ⟨a⟩)=.str a.toList:=rfl
theorem Lc:cv (.slice none 0 0)=.lst [] .full:=rfl
theorem J2:eW P N all K E d rest env s (some v)=aw P N all K E rest (put N env d v) s:=rfl
theorem D9:mU P N all K E d rest env (some s)=aw P N all K E rest (put N env d (.tup [])) s:=rfl
theorem Kn:ub P N all K E d rest env s (.bool t) v w=aw P N all K E rest (put N env d (if t then v else w)) s:=rfl
theorem Ky:G5 P N all K E d rest env s (.ptr i j)=aw P N all K E rest (put N env d (.ptr i j)) s:=by simp[G5]
theorem Lg {op:BinOp}:iI P N all K E op T cy d rest env s (.int k q) (.int k r)=eW P N all K E d rest env s (bF op k q r):=by simp[iI]
theorem Kj:iI P N all K E .add T cy d rest env s (.str sa) (.str sb)=(sa.length+sb.length<=9223372036854775807/\aw P N all K E rest (put N env d (.str (sa++sb))) s):=rfl
theorem Kg:iI P N all K E .eql T cy d rest env s (.str sa) (.str sb)=aw P N all K E rest (put N env d (.bool (decide (sa=sb)))) s:=rfl
theorem Ke:iI P N all K E .neq T cy d rest env s (.str sa) (.str sb)=aw P N all K E rest (put N env d (.bool !(decide (sa=sb)))) s:=rfl
theorem Lh:iI P N all K E .eql T cy d rest env s (.bool t) (.bool u)=((match (qi P T).k with|.bool=>True|_=>False)/\aw P N all K E rest (put N env d (.bool (t == u))) s):=rfl
theorem Lf:iI P N all K E .neq T cy d rest env s (.bool t) (.bool u)=((match (qi P T).k with|.bool=>True|_=>False)/\aw P N all K E rest (put N env d (.bool !(t == u))) s):=rfl
theorem Ev {xs ys:Tb}:iI P N all K E .eql T cy d rest env s (.agg xs) (.agg ys)=vnl P N all K E d rest env s false (jz P T xs ys):=rfl
theorem Eu {xs ys:Tb}:iI P N all K E .neq T cy d rest env s (.agg xs) (.agg ys)=vnl P N all K E d rest env s true (jz P T xs ys):=rfl
theorem uU:iI P N all K E .eql T cy d rest env s (.iface T' v) (.raw w1)=(cy=true/\vnl P N all K E d rest env s false (eG (qi P T).k (.iface T' v) (.raw w1))):=rfl
theorem uT:iI P N all K E .neq T cy d rest env s (.iface T' v) (.raw w1)=(cy=true/\vnl P N all K E d rest env s true (eG (qi P T).k (.iface T' v) (.raw w1))):=rfl
theorem uS:iI P N all K E .eql T cy d rest env s (.raw v1) (.raw w1)=(cy=true/\vnl P N all K E d rest env s false (eG (qi P T).k (.raw v1) (.raw w1))):=rfl
theorem uR:iI P N all K E .neq T cy d rest env s (.raw v1) (.raw w1)=(cy=true/\vnl P N all K E d rest env s true (eG (qi P T).k (.raw v1) (.raw w1))):=rfl
theorem uQ:iI P N all K E .eql T cy d rest env s (.ptr i j) (.raw w1)=(cy=true/\vnl P N all K E d rest env s false (eG (qi P T).k (.ptr i j) (.raw w1))):=rfl
theorem uP:iI P N all K E .neq T cy d rest env s (.ptr i j) (.raw w1)=(cy=true/\vnl P N all K E d rest env s true (eG (qi P T).k (.ptr i j) (.raw w1))):=rfl
theorem uO {b:Nat}:iI P N all K E .eql T cy d rest env s (.mp b) (.raw w1)=(cy=true/\vnl P N all K E d rest env s false (eG (qi P T).k (.mp b) (.raw w1))):=rfl
theorem uN {b:Nat}:iI P N all K E .neq T cy d rest env s (.mp b) (.raw w1)=(cy=true/\vnl P N all K E d rest env s true (eG (qi P T).k (.mp b) (.raw w1))):=rfl
theorem Kw {k e b:Nat}:eG (.map k e) (.mp b) (.raw (.map none))=some false:=rfl
theorem Ei {k e:Nat}:eG (.map k e) (.raw (.map none)) (.raw (.map none))=some true:=rfl
theorem Kx:eG .iface (.iface T v) (.raw .nilIface)=some false:=rfl
theorem Ej:eG .iface (.raw .nilIface) (.raw .nilIface)=some true:=rfl
theorem Kv:eG .ptr (.ptr i j) (.raw (.pointer none))=some false:=rfl
theorem J4 {b:Bool}:vnl P N all K E d rest env s false (some b)=aw P N all K E rest (put N env d (.bool b)) s:=rfl
theorem J3 {b:Bool}:vnl P N all K E d rest env s true (some b)=aw P N all K E rest (put N env d (.bool !b)) s:=rfl
theorem OW {v:Value}:(Operand.const v).isConst=true:=rfl
theorem rz {b:Bool}:aw P N all K E (⟨d,.typeAssert x T' T b,ty,p,af,none⟩::rest) env s=(b=true/\(match (qi P T).k with|.iface=>False|.other=>False|_=>True)/\vta P N all K E d rest env s T (rd env x)):=by
 simp only[aw,aP,vta]
 cases rd env x<;>rfl
theorem p_ta:vta P N all K E d rest env s T (.iface T' v)=(T'=T/\aw P N all K E rest (put N env d (.tup [v,.bool true])) s):=rfl
theorem OF:vun P N all K E .not d rest env s (.bool t)=aw P N all K E rest (put N env d (.bool !t)) s:=rfl
theorem OH:vun P N all K E .neg d rest env s (.int k q)=aw P N all K E rest (put N env d (.int k (k.wrap (0 - q)))) s:=rfl
theorem O3:zx P N all K E d rest env s (.eptr cs) (some (i,j,t))=(i<=cs.length/\aw P N all K E rest (put N env d (.eptr (cs.drop i))) s):=rfl
theorem O2:zx P N all K E d rest env s (.ptr n j) (some (i,n',t))=aw P N all K E rest (put N env d (.ptr n (j+i))) s:=rfl
theorem p_f:G6 P N all K E d rest env s (.agg cs) (some (i,j,t))=eW P N all K E d rest env s (cF cs i j t):=rfl
theorem O4:G7 P N all K E d rest env s (.tup xs) i=eW P N all K E d rest env s xs[i]?:=rfl
theorem On:Nj E env s (.iface T v)=E (.iface T v) env s:=rfl
theorem Pp:Nk P N all K E d rest env s (some cs)=aw P N all K E rest (put N env d (.agg cs)) s:=rfl
theorem Om {e:TypeId}{sz:Nat}:wu P N all K E d rest env s n e sz false (some l)=aw P N all K E rest (put N env d (.lst l (jm n))) s:=rfl
theorem Kk {e:TypeId}{sz:Nat}:wu P N all K E d rest env s n e sz true (some l)=(0<n/\∀b,s b=.free->aw P N all K E rest (put N env d (.mrw b n)) (s.set b (.row e sz l.flatten))):=rfl
theorem Oy:jm 0=.no:=rfl
theorem Ox:jm (n+1)=.full:=rfl
theorem Le:uf P N all K E d rest env s (.fn f cs) xs=mX P N all K E d rest env s f (xs++cs):=by
 unfold uf wC mX
 apply propext
 constructor
 ·rintro⟨g,caps,Q,h,rest⟩
  injection h with h1 h2
  subst h1;subst h2
  exact⟨Q,rest⟩
 ·rintro⟨Q,rest⟩
  exact⟨f,cs,Q,rfl,rest⟩
theorem p_gt:vgd P N all K E (.bool true) true d op ty p af rest env s=aw P N all K E (⟨d,op,ty,p,af,none⟩::rest) env s:=by simp[vgd]
theorem p_gf:vgd P N all K E (.bool false) false d op ty p af rest env s=aw P N all K E (⟨d,op,ty,p,af,none⟩::rest) env s:=by simp[vgd]
theorem OZ:vgd P N all K E (.bool true) false d op ty p af rest env s=aw P N all K E rest (put N env d (.tup [])) s:=by simp[vgd]
theorem O0:vgd P N all K E (.bool false) true d op ty p af rest env s=aw P N all K E rest (put N env d (.tup [])) s:=by simp[vgd]
def rk:List Oper->Nat->Option Tmp
 |[],_=>none
 |o::_,0=>o.dst
 |_::l,n+1=>rk l n
theorem xc:∀(l:List Oper) (j:Nat),rk l j=(l[j]?).bind (·.dst)
 |[],j=>by simp[rk]
 |o::l,0=>by simp[rk]
 |o::l,j+1=>by simp[rk,xc l j]
def yvd (env:Env):Option Tmp->VV
 |some t=>env t
 |none=>.tup []
theorem p_yv:yv all env j=yvd env (rk all j):=by
 rw[xc]
 unfold yv yvd
 cases (all[j]?).bind (·.dst)<;>rfl
theorem N5:yvd env (some i)=env i:=rfl
theorem Ku {g:Option (Nat×Bool)}{l:List Oper}:rk (⟨d,op,ty,p,af,g⟩::l) 0=d:=rfl
theorem Kt {o:Oper}{l:List Oper}:rk (o::l) (n+1)=rk l n:=rfl
theorem Et:iI P N all K E .shl T cy d rest env s (.int k q) (.int k' r)=eW P N all K E d rest env s (bF .shl k q r):=by simp[iI,yJ]
theorem Es:iI P N all K E .shr T cy d rest env s (.int k q) (.int k' r)=eW P N all K E d rest env s (bF .shr k q r):=by simp[iI,yJ]
theorem cU:bF .quo k q r=if r≠0 then some (.int k (k.wrap (q.tdiv r)))else none:=rfl
theorem cT:bF .rem k q r=if r≠0 then some (.int k (q.tmod r))else none:=rfl
theorem bJ:bF .and k q r=some (.int k (jv k q r)):=rfl
theorem cX:bF .or k q r=some (.int k (bOr k q r)):=rfl
theorem GA:bF .xor k q r=some (.int k (tO k q r)):=rfl
theorem aT:bF .andNot k q r=some (.int k (iO k q r)):=rfl
theorem bH:bF .shl k q r=if 0<=r then some (.int k (k.wrap (q * 2 ^ (min r.toNat k.bits))))else none:=rfl
theorem bG:bF .shr k q r=if 0<=r then some (.int k (q.fdiv (2 ^ (min r.toNat k.bits))))else none:=rfl
theorem Pq:bF .add k q r=some (.int k (k.wrap (q+r))):=rfl
theorem Oe:bF .sub k q r=some (.int k (k.wrap (q - r))):=rfl
theorem GB:bF .mul k q r=some (.int k (k.wrap (q * r))):=rfl
theorem O6:bF .eql k q r=some (.bool (decide (q=r))):=rfl
theorem OG:bF .neq k q r=some (.bool !(decide (q=r))):=rfl
theorem OM:bF .lss k q r=some (.bool (decide (q<r))):=rfl
theorem OP:bF .leq k q r=some (.bool (decide (q<=r))):=rfl
theorem OY:bF .gtr k q r=some (.bool (decide (r<q))):=rfl
theorem O1:bF .geq k q r=some (.bool (decide (r<=q))):=rfl
theorem OV:fJ Q (.eptr cs) s=cF cs 0 Q.sz Q.k.agg:=rfl
def mW (Q:QI)(off:Nat):Cell->Option VV
 |.obj _ xs=>cF xs off Q.sz Q.k.agg
 |.pk _ xs _=>cF xs off Q.sz Q.k.agg
 |.row _ _ xs=>cF xs off Q.sz Q.k.agg
 |_=>none
theorem OU:fJ Q (.ptr i j) s=mW Q j (s i):=by
 unfold fJ mW
 simp only
 cases s i<;>rfl
theorem OT:mW Q j (.obj T xs)=cF xs j Q.sz Q.k.agg:=rfl
theorem OQ {sz:Nat}:mW Q j (.row T sz xs)=cF xs j Q.sz Q.k.agg:=rfl
theorem OS {rs:List (Nat×TypeId×Nat)}:mW Q j (.pk T xs rs)=cF xs j Q.sz Q.k.agg:=rfl
def jx (Q:QI)(b off:Nat)(x:VV)(s:St):Cell->Option St
 |.obj T xs=>if x.cells.length=Q.sz/\0<Q.sz/\off+Q.sz<=xs.length/\x.cells.all VV.one=true then some (s.set b (.obj T (splice xs off x.cells)))else none
 |.pk T xs rs=>if x.cells.length=Q.sz/\0<Q.sz/\off+Q.sz<=xs.length/\x.cells.all VV.one=true then some (s.set b (.pk T (splice xs off x.cells) (tf off Q.sz rs)))else none
 |.row T sz xs=>if x.cells.length=Q.sz/\0<Q.sz/\off+Q.sz<=xs.length/\x.cells.all VV.one=true then some (s.set b (.row T sz (splice xs off x.cells)))else none
 |_=>none
theorem p_st:gR Q (.ptr i j) v s=jx Q i j v s (s i):=by
 unfold gR jx
 simp only
 cases s i<;>rfl
theorem Oh:jx Q i j v s (.obj T xs)=if v.cells.length=Q.sz/\0<Q.sz/\j+Q.sz<=xs.length/\v.cells.all VV.one=true then some (s.set i (.obj T (splice xs j v.cells)))else none:=rfl
theorem Of {sz:Nat}:jx Q i j v s (.row T sz xs)=if v.cells.length=Q.sz/\0<Q.sz/\j+Q.sz<=xs.length/\v.cells.all VV.one=true then some (s.set i (.row T sz (splice xs j v.cells)))else none:=rfl
theorem Og {rs:List (Nat×TypeId×Nat)}:jx Q i j v s (.pk T xs rs)=if v.cells.length=Q.sz/\0<Q.sz/\j+Q.sz<=xs.length/\v.cells.all VV.one=true then some (s.set i (.pk T (splice xs j v.cells) (tf j Q.sz rs)))else none:=rfl
theorem Ek:tf i n []=[]:=rfl
theorem Ol {c:Cell}:St.set s i c j=if j=i then c else s j:=rfl
theorem Ko:cF cs i j t=if i+j<=cs.length then(if t then some (.agg ((cs.drop i).take j))else if j=1 then cs[i]? else none)else none:=rfl
theorem Ki:QK.struct.agg=true:=rfl
theorem Ln:(QK.array i T).agg=true:=rfl
theorem Li:QK.bool.agg=false:=rfl
theorem KV:(QK.int k).agg=false:=rfl
theorem Kc:QK.str.agg=false:=rfl
theorem KP:(QK.slice T).agg=false:=rfl
theorem KC:(QK.map T T').agg=false:=rfl
theorem Kq:QK.ptr.agg=false:=rfl
theorem KX:QK.iface.agg=false:=rfl
theorem Ka:QK.func.agg=false:=rfl
theorem Pk:(VV.agg cs).cells=cs:=rfl
theorem Pf:(VV.int k q).cells=[.int k q]:=rfl
theorem Pj:(VV.bool t).cells=[.bool t]:=rfl
theorem O8:(VV.str sa).cells=[.str sa]:=rfl
theorem Pe:(VV.lst l o).cells=[.lst l o]:=rfl
theorem Pa:(VV.ptr i j).cells=[.ptr i j]:=rfl
theorem Pi:(VV.eptr cs).cells=[.eptr cs]:=rfl
theorem Ph:(VV.fn f cs).cells=[.fn f cs]:=rfl
theorem Pd:(VV.mp i).cells=[.mp i]:=rfl
theorem O9 {v:Value}:(VV.raw v).cells=[.raw v]:=rfl
theorem Pg:(VV.iface T v).cells=[.iface T v]:=rfl
theorem Oz:(VV.int k q).one=true:=rfl
theorem OE:(VV.bool t).one=true:=rfl
theorem Oo:(VV.str sa).one=true:=rfl
theorem Ow:(VV.lst l o).one=true:=rfl
theorem Oq:(VV.ptr i j).one=true:=rfl
theorem OD:(VV.eptr cs).one=true:=rfl
theorem OC:(VV.fn f cs).one=true:=rfl
theorem Ov:(VV.mp i).one=true:=rfl
theorem OA:(VV.iface T v).one=true:=rfl
theorem J5 {sz:Nat}{bt:Nat}{zo:Bool}{zz:Tb}:pu ⟨.slice T,j,bt,zo,zz⟩ sz (.lst l o) (.int k q)=if 0<=q then(l[q.toNat]?).bind fun cs=>if cs.length=sz/\0<sz then some (.eptr cs)else none else none:=rfl
theorem Eb {sz bt m:Nat}{zo:Bool}{zz:Tb}:pu ⟨.slice T,j,bt,zo,zz⟩ sz (.msl i m) (.int k q)=if 0<=q/\q.toNat<m/\sz=1 then some (.ptr i q.toNat)else none:=rfl
theorem Ea {sz bt m:Nat}{zo:Bool}{zz:Tb}:pu ⟨.slice T,j,bt,zo,zz⟩ sz (.mrw i m) (.int k q)=if 0<=q/\q.toNat<m/\0<sz then some (.ptr i (q.toNat * sz))else none:=rfl
theorem Ec {sz bt m sz2:Nat}{zo:Bool}{zz cs:Tb}:pu ⟨.array m T,sz2,bt,zo,zz⟩ sz (.eptr cs) (.int k q)=if 0<=q/\q.toNat<m/\0<sz then some (.eptr (cs.drop (q.toNat * sz)))else none:=rfl
theorem Ed {sz bt m sz2 off:Nat}{zo:Bool}{zz:Tb}:pu ⟨.array m T,sz2,bt,zo,zz⟩ sz (.ptr i off) (.int k q)=if 0<=q/\q.toNat<m/\0<sz then some (.ptr i (off+q.toNat * sz))else none:=rfl
theorem KG {sz bt m:Nat}{zo:Bool}{zz:Tb}:db ⟨.slice T,sz,bt,zo,zz⟩ (.mrw i m) s=some (.int .i64 m):=rfl
theorem KH {sz bt:Nat}{zo:Bool}{zz:Tb}:db ⟨.slice T,sz,bt,zo,zz⟩ (.raw (.slice none 0 0)) s=some (.int .i64 0):=rfl
theorem Ou {m:Nat}:(VV.mrw i m).one=true:=rfl
theorem Pc {m:Nat}:(VV.mrw i m).cells=[.mrw i m]:=rfl
theorem Oj {sz bt m:Nat}{zo:Bool}{zz:Tb}{qe:QI}{lo hi:Option VV}:gS ⟨.slice T,sz,bt,zo,zz⟩ qe (.mrw i m) lo hi =
  match ce lo 0,ce hi m with
  |some a,some b=>if a=0/\b<=m/\0<qe.sz then some (.mrw i b)else none
  |_,_=>none:=rfl
theorem KJ {sz bt m:Nat}{zo:Bool}{zz:Tb}:db ⟨.slice T,sz,bt,zo,zz⟩ (.msl i m) s=some (.int .i64 m):=rfl
theorem Ot {m:Nat}:(VV.msl i m).one=true:=rfl
theorem Pb {m:Nat}:(VV.msl i m).cells=[.msl i m]:=rfl
theorem J9 {qe:QI}{e:TypeId}{m sz:Nat}{bt:Nat}{zo:Bool}{zz:Tb}{xs:Tb}:vat ⟨.array m e,sz,bt,zo,zz⟩ qe (.agg xs) (.int k q)=if 0<=q/\q.toNat<m/\qe.sz=1/\qe.k.agg=false then xs[q.toNat]? else none:=rfl
theorem N6 {qe:QI}{sz:Nat}{bt:Nat}{zo:Bool}{zz:Tb}:vat ⟨.str,sz,bt,zo,zz⟩ qe (.str sa) (.int k q)=if 0<=q then(sa[q.toNat]?).map fun c=>.int .u8 (c.toNat:Int)else none:=rfl
theorem KE {sz:Nat}{bt:Nat}{zo:Bool}{zz:Tb}:db ⟨.str,sz,bt,zo,zz⟩ (.str sa) s=some (.int .i64 sa.length):=rfl
theorem KL {sz:Nat}{bt:Nat}{zo:Bool}{zz:Tb}:db ⟨.slice T,sz,bt,zo,zz⟩ (.lst l o) s=some (.int .i64 l.length):=rfl
theorem Kf {sz:Nat}{bt:Nat}{zo:Bool}{zz:Tb}{qe:QI}{lo hi:Option VV}:gS ⟨.slice T,sz,bt,zo,zz⟩ qe (.lst l o) lo hi =
  match ce lo 0,ce hi l.length with
  |some a,some b=>if a<=b/\b<=l.length/\0<qe.sz/\(∀x,x∈l->x.length=qe.sz)then some (.lst ((l.take b).drop a) .no)else none
  |_,_=>none:=rfl
theorem Kd {sz:Nat}{bt:Nat}{zo:Bool}{zz:Tb}{qe:QI}{lo hi:Option VV}:gS ⟨.str,sz,bt,zo,zz⟩ qe (.str sa) lo hi =
  match ce lo 0,ce hi sa.length with
  |some a,some b=>if a<=b/\b<=sa.length then some (.str ((sa.take b).drop a))else none
  |_,_=>none:=rfl
theorem Pn:ce none n=some n:=rfl
theorem Pm:ce (some (.int k q)) n=if 0<=q then some q.toNat else none:=rfl
theorem O5 {e:TypeId}{m sz bt:Nat}{zo:Bool}{zz:Tb}:aE ⟨.array m e,sz,bt,zo,zz⟩=e:=rfl
theorem p_et {sz:Nat}{bt:Nat}{zo:Bool}{zz:Tb}:aE ⟨.slice T,sz,bt,zo,zz⟩=T:=rfl
theorem p_em {sz:Nat}{bt:Nat}{zo:Bool}{zz:Tb}:aE ⟨.map T T',sz,bt,zo,zz⟩=T':=rfl
theorem p_es {sz:Nat}{bt:Nat}{zo:Bool}{zz:Tb}:aE ⟨.str,sz,bt,zo,zz⟩=0:=rfl
theorem p_km {sz:Nat}{bt:Nat}{zo:Bool}{zz:Tb}:jr ⟨.map T T',sz,bt,zo,zz⟩=T:=rfl
theorem Po {q':QK}{e:TypeId}:r7 P N all K E d rest env s T T q' e Q (.lst l o) (.lst l' o')=fe (fun z s'=>aw P N all K E rest (put N env d z) s') e Q l l' o s:=by
 simp[r7]
theorem Ef {b i b' j:Nat}:iI P N all K E .eql T cy d rest env s (.ptr b i) (.ptr b' j)=(pok P T=true/\b=b'/\i=j/\aw P N all K E rest (put N env d (.bool true)) s):=rfl
theorem Ee {b i b' j:Nat}:iI P N all K E .neq T cy d rest env s (.ptr b i) (.ptr b' j)=(pok P T=true/\b=b'/\i=j/\aw P N all K E rest (put N env d (.bool false)) s):=rfl
theorem mD:er P T T' (.int k q) s=match (qi P T).k,(qi P T').k with|.int _,.int k'=>some (.int k' (k'.wrap q))|_,_=>none:=rfl
theorem Ep {b i:Nat}:er P T T' (.ptr b i) s=match s b with|.obj U xs=>if LZ P T T' U xs.length i=true then some (.ptr b i)else none|_=>none:=rfl
theorem gY:∀l:TT,eA (cC l)=some l
 |[]=>rfl
 |c::l=>by
  have h:(c.toNat:Int)<256:=by have:=c.toNat_lt;omega
  have e:UInt8.ofNat (c.toNat:Int).toNat=c:=by simp
  have:=gY l
  simp only[cC,List.map_cons,eA]at this ⊢
  rw[if_pos ⟨by omega,h⟩,this,e];rfl
theorem Eo:er P T T' (.lst (cC sa) o) s=match (qi P T).k,(qi P T').k with|.slice e,.str=>if LB (qi P e).k=true then some (.str sa)else none|_,_=>none:=by
 simp only[er,gY];rfl
theorem KU:LB (.int .u8)=true:=rfl
theorem Lj {q':QK}{e:TypeId}{b n:Nat}:r7 P N all K E d rest env s T T q' e Q (.mrw b n) (.lst l' o')=gW (fun z s'=>aw P N all K E rest (put N env d z) s') e Q b n l' s:=by
 simp[r7]
theorem Lk {q':QK}{e:TypeId}:r7 P N all K E d rest env s T T q' e Q (.raw (.slice none 0 0)) (.lst l' o')=gX (fun z s'=>aw P N all K E rest (put N env d z) s') e Q l' s:=by
 simp[r7]
theorem La:ry (v::xs) 0=v:=rfl
theorem KY:ry (v::xs) (n+1)=ry xs n:=by simp[ry]
theorem KZ:ry [] n=.tup []:=rfl
theorem Oi {α:Type}{a b:List α}:splice a n b=a.take n++b++a.drop (n+b.length):=rfl
theorem D7 {r:ResultVar}:kP P env s [r]=rW P env s r:=rfl
theorem D8:kP P env s []=some (.tup []):=rfl
theorem D6 {r r':ResultVar}{rs:List ResultVar}:kP P env s (r::r'::rs)=(gT P env s (r::r'::rs)).map .tup:=rfl
theorem Ks:rW P env s (.tmp i)=some (env i):=rfl
theorem Kr:rW P env s (.cell i T)=fJ (qi P T) (env i) s:=rfl
theorem Eh:gT P env s []=some []:=rfl
theorem Eg {r:ResultVar}{rs:List ResultVar}:gT P env s (r::rs)=match rW P env s r,gT P env s rs with|some x,some xs=>some (x::xs)|_,_=>none:=rfl
theorem Em:gL P T cs []=some cs:=rfl
theorem El {rest:List (Nat×VV)}:gL P T cs ((j,v)::rest)=match qp P T j with
  |some (off,sz)=>if v.cells.length=sz/\off+sz<=cs.length/\v.cells.all VV.one=true then gL P T (splice cs off v.cells) rest else none
  |none=>none:=rfl
theorem Km:gj n i []=some []:=rfl
theorem Kl {rest:List (Nat×VV)}:gj n i ((j,v)::rest)=if j=i/\v.cells.length=n/\v.cells.all VV.one=true then(gj n (i+1) rest).map (v.cells::·)else none:=rfl
theorem KQ {a b:VV}:(if true=true then a else b)=a:=rfl
theorem KT {a b:VV}:(if false=true then a else b)=b:=rfl
def SRet (P:Program)(f:FuncId)(xs:Tb)(s:St)(y:VV)(s':St):Prop:=SCalls P f xs s fun e t=>e=.ret y/\t=s'
theorem ae {s':St}(hc:an P f)(h:SRet P f xs s v s')(hr:aw P N all K E rest (put N env d v) s'):mX P N all K E d rest env s f xs:=
 ⟨_,.inl ⟨hc,h⟩,fun x t q=>by obtain⟨e,e'⟩:=q;injection e with e;subst e;subst e';exact hr,fun x t q=>by cases q.1⟩
theorem o7 {s':St}(h:B1 P f xs s fun e t=>e=.ret v/\t=s')(hr:aw P N all K E rest (put N env d v) s'):mX P N all K E d rest env s f xs:=
 ⟨_,.inr h,fun x t q=>by obtain⟨e,e'⟩:=q;injection e with e;subst e;subst e';exact hr,(fun x t q=>by cases q.1)⟩
end
def St.own (s:St)(o:Own)(T:TypeId)(sz n:Nat):St:=
 match o with
 |.at_ b=>s.set b (.vec T sz n)
 |_=>s
def OwnOk (s:St)(o:Own)(n:Nat):Prop:=
 match o with
 |.no=>False
 |.full=>n=0
 |.at_ b=>s b=.free
theorem Fg.own {s:St}{o:Own}{T:TypeId}{sz n m:Nat}(h:OwnOk s o m):Fg (s.own o T sz n) s:=by
 cases o with
 |no=>exact Fg.refl s
 |full=>exact Fg.refl s
 |at_ b=>exact w_ _ h
attribute [go_sem ↓] PI LQ Bp EX LP E1 PN EZ rA LR ET vx E0 LO tC EY tB EW EU mv vy yM Bo tz yN EV LS PM PJ R5 Bq
attribute [go_sem] uM uL Oa Od Eq KW Ld Er Lb Lc J2 D9 Kn Ky Lg Kj Kg Ke Lh Lf OF OH Et Es cU cT bJ cX GA aT bH bG O3 O2 p_f O4 On Pp Om Kk KA Kz Ll Lm Le p_gt p_gf OZ O0 p_yv Pq Oe GB O6 OG OM OP OY O1 OV OU OT p_st Oh Og OS Ek Ol Ko Ki Ln Li KV Kc KP KC Kq KX Ka Pk Pf Pj O8 Pe Pa Pi Ph Pd O9 Pg Oz OE Oo Ow Oq OD OC Ov OA J5 N6 KE KL Kf Kd Pn Pm p_et p_em p_es p_km Po Oy Ox Ef Ee mD Ep Eo KU La KY KZ Oi D7 D8 D6 Ks Kr Eh Eg Em El Km Kl KQ KT
attribute [go_sem ↓] rz yO tA
attribute [go_sem] uO uN Kw Ei
attribute [go_sem] p_mk OI J9 O5 Eb KJ Ot Pb Int.toNat_natCast OQ Of Ea Ed Ec KG KH Ou Pc Oj Lj Lk
attribute [go_sem] uU uT uS uR uQ uP Kx Ej Kv J4 J3 OW p_ta
attribute [go_sem] N5 Ku Kt Ev Eu jz eqF eq1 Option.bind_some Option.bind_none Option.map_some Option.map_none
theorem bT {n:Int}(h1:-9223372036854775808<=n)(h2:n<=9223372036854775807):IntKind.i64.wrap n=n:=by
 simp only[IntKind.wrap,IntKind.bits,IntKind.signed]
 simp
 omega
attribute [go_sem] bT Int.cast_ofNat_Int List.size_toArray
attribute [go_sem] decide_true decide_false Bool.not_true Bool.not_false and_true true_and Bool.false_eq_true List.length_cons List.length_nil List.getElem?_cons_zero List.getElem?_cons_succ Option.bind_some Option.map_some Option.map_none Option.bind_none List.map_cons List.map_nil List.all_cons List.all_nil Bool.and_true Bool.true_and Bool.and_false Bool.false_and List.take_succ_cons List.take_zero List.drop_succ_cons List.drop_zero List.cons_append List.nil_append List.append_nil Int.toNat_natCast List.drop_nil List.take_nil Bool.and_self Nat.zero_add Nat.add_zero Int.zero_add Int.add_zero
theorem kC (x:Int)(j:Nat)(hj:j<=62):jv .i64 x (2 ^ j - 1)=x % 2 ^ j:=by
 have hp:(2:Int) ^ j=((2 ^ j:Nat):Int):=by simp
 have hle:2 ^ j<=2 ^ 62:=Nat.pow_le_pow_right (by omega) hj
 have hpos:0<2 ^ j:=Nat.pow_pos (by omega)
 have h1:(BitVec.ofInt IntKind.i64.bits x &&& BitVec.ofInt IntKind.i64.bits (2 ^ j - 1)).toNat=(x % 2 ^ j).toNat:=by
  rw[BitVec.toNat_and,BitVec.toNat_ofInt,BitVec.toNat_ofInt]
  have e2:((2:Int) ^ j - 1) % ((2 ^ IntKind.i64.bits:Nat):Int)=((2 ^ j - 1:Nat):Int):=by
   rw[show ((2:Int) ^ j - 1)=((2 ^ j - 1:Nat):Int) by omega]
   exact Int.emod_eq_of_lt (by omega) (by
    have:(2 ^ 62:Nat)<2 ^ IntKind.i64.bits:=by decide
    omega)
  rw[e2]
  show _ &&& (2 ^ j - 1)=_
  rw[Nat.and_two_pow_sub_one_eq_mod]
  have hd:((2 ^ IntKind.i64.bits:Nat):Int)=2 ^ j * ((2 ^ (64 - j):Nat):Int):=by
   rw[hp,<- Int.natCast_mul,<- Nat.pow_add,show j+(64 - j)=64 by omega];rfl
  have h0:0<=x % ((2 ^ IntKind.i64.bits:Nat):Int):=Int.emod_nonneg _ (by decide)
  have:(((x % ((2 ^ IntKind.i64.bits:Nat):Int)).toNat % 2 ^ j:Nat):Int)=((x % 2 ^ j).toNat:Int):=by
   rw[Int.natCast_emod,Int.toNat_of_nonneg h0,Int.toNat_of_nonneg (Int.emod_nonneg _ (by omega)),<- hp,hd]
   exact Int.emod_emod_of_dvd _ ⟨_,rfl⟩
  exact Int.ofNat.inj this
 unfold jv
 rw[h1,Int.toNat_of_nonneg (Int.emod_nonneg _ (by omega))]
 have h3:=Int.emod_lt_of_pos x (show (0:Int)<2 ^ j by omega)
 have h4:=Int.emod_nonneg x (show (2:Int) ^ j≠0 by omega)
 exact bT (by omega) (by omega)
end Go.Proofs.YtohnaepcgnbaiaaGreatDoor
