/- Walks of functions that the claim reaches, and plain facts of them. Conditions: those in the statements. -/
import Derived.Test.YteldpmgepfaiiaaGreatDoorQrSoundFj
import Derived.Test.YteldpmgepfaiiaaGreatDoorQrDrawj
set_option linter.unusedSimpArgs false
set_option linter.unusedVariables false
set_option linter.defProp false
namespace Go.Proofs.YteldpmgepfaiiaaGreatDoor
open Go.RowKit
section
variable (P : Program) (N : Nat) (all : List Oper) (K : Env -> St -> Prop) (E : VV -> Env -> St -> Prop)
def gp (d:Option Tmp)(rest:List Oper)(env:Env)(s:St):Option VV->Prop
 |some z=>aG P N all K E rest (put N env d z) s
 |none=>False
def ml (d:Option Tmp)(rest:List Oper)(env:Env):Option St->Prop
 |some s=>aG P N all K E rest (put N env d (.tup [])) s
 |none=>False
def s6 (d:Option Tmp)(rest:List Oper)(env:Env)(s:St)(c a b:VV):Prop:=
 match c with
 |.bool t=>aG P N all K E rest (put N env d (if t then a else b)) s
 |_=>False
def Eh (d:Option Tmp)(rest:List Oper)(env:Env)(s:St)(x:VV):Prop:=
 (match x with|.ptr _ _=>True|.eptr _=>True|.fn _ _=>True|.mp _=>True|_=>False)/\aG P N all K E rest (put N env d x) s
def vta (d:Option Tmp)(rest:List Oper)(env:Env)(s:St)(T:TypeId):VV->Prop
 |.iface T' v=>T'=T/\aG P N all K E rest (put N env d (.tup [v,.bool true])) s
 |_=>False
def vnl (d:Option Tmp)(rest:List Oper)(env:Env)(s:St)(neg:Bool):Option Bool->Prop
 |some b=>aG P N all K E rest (put N env d (.bool (if neg then !b else b))) s
 |none=>False
def vmk (d:Option Tmp)(rest:List Oper)(env:Env)(s:St)(k:QK)(e:TypeId)(q:QI)(x y:VV):Prop:=
 match x,y,q.z with
 |.int _ n,.int _ m,[z]=>n=m/\0<=n/\n * q.bt<=140737488355328/\n<=140737488355328/\(match k with|.slice _=>True|_=>False)/\q.zok=true /\
  ∀b,New s b->aG P N all K E rest (put N env d (.msl b n.toNat)) (s.set b (.obj e (List.replicate n.toNat z)))
 |_,_,_=>False
def gN (op:BinOp)(T:TypeId)(cy:Bool)(d:Option Tmp)(rest:List Oper)(env:Env)(s:St)(x y:VV):Prop:=
  match x,y with
  |.int k a,.int k' b=>(k=k'\/CA op=true)/\gp P N all K E d rest env s (fC op k a b)
  |.str a,.str b=>
    (match op with
     |.add=>a.length+b.length<=9223372036854775807/\aG P N all K E rest (put N env d (.str (a++b))) s
     |.eql=>aG P N all K E rest (put N env d (.bool (decide (a=b)))) s
     |.neq=>aG P N all K E rest (put N env d (.bool !(decide (a=b)))) s
     |_=>False)
  |.bool a,.bool b=>(match (qi P T).k with|.bool=>True|_=>False) /\
    (match op with
     |.eql=>aG P N all K E rest (put N env d (.bool (a == b))) s
     |.neq=>aG P N all K E rest (put N env d (.bool !(a == b))) s
     |_=>False)
  |.ptr b i,.ptr b' j=>pok P T=true/\b=b'/\i=j /\
    (match op with
     |.eql=>aG P N all K E rest (put N env d (.bool true)) s
     |.neq=>aG P N all K E rest (put N env d (.bool false)) s
     |_=>False)
  |.agg xs,.agg ys=>
    (match op with
     |.eql=>vnl P N all K E d rest env s false (jU P T xs ys)
     |.neq=>vnl P N all K E d rest env s true (jU P T xs ys)
     |_=>False)
  |x,y=>cy=true /\
    (match op with
     |.eql=>vnl P N all K E d rest env s false (gh (qi P T).k x y)
     |.neq=>vnl P N all K E d rest env s true (gh (qi P T).k x y)
     |_=>False)
def vun (op:UnOp)(d:Option Tmp)(rest:List Oper)(env:Env)(s:St)(x:VV):Prop:=
 match op,x with
 |.not,.bool b=>aG P N all K E rest (put N env d (.bool !b)) s
 |.neg,.int k n=>aG P N all K E rest (put N env d (.int k (k.wrap (0 - n)))) s
 |_,_=>False
def yg (d:Option Tmp)(rest:List Oper)(env:Env)(s:St)(x:VV)(q:Option (Nat×Nat×Bool)):Prop:=
 match x,q with
 |.eptr cs,some (off,_,_)=>off<=cs.length/\aG P N all K E rest (put N env d (.eptr (cs.drop off))) s
 |.ptr b o',some (off,_,_)=>aG P N all K E rest (put N env d (.ptr b (o'+off))) s
 |_,_=>False
def Ei (d:Option Tmp)(rest:List Oper)(env:Env)(s:St)(x:VV)(q:Option (Nat×Nat×Bool)):Prop:=
 match x,q with
 |.agg cs,some (off,sz,ag)=>gp P N all K E d rest env s (df cs off sz ag)
 |_,_=>False
def Ej (d:Option Tmp)(rest:List Oper)(env:Env)(s:St)(x:VV)(i:Nat):Prop:=
 match x with
 |.tup xs=>gp P N all K E d rest env s xs[i]?
 |_=>False
def Ir (env:Env)(s:St)(x:VV):Prop:=match x with|.iface T y=>E (.iface T y) env s|_=>False
def Is (d:Option Tmp)(rest:List Oper)(env:Env)(s:St):Option (List VV)->Prop
 |some cs=>aG P N all K E rest (put N env d (.agg cs)) s
 |none=>False
def Dy (d:Option Tmp)(rest:List Oper)(env:Env)(s:St)(o:Own):Option (List (List VV))->Prop
 |some xs=>aG P N all K E rest (put N env d (.lst xs o)) s
 |none=>False
def nY (d:Option Tmp)(rest:List Oper)(env:Env)(s:St)(T T':TypeId)(q':QK)(e:TypeId)(q:QI)(x y:VV):Prop:=
 match x,y with
 |.lst xs ox,.lst ys _=>T=T'/\eS (fun z s'=>aG P N all K E rest (put N env d z) s') e q xs ys ox s
 |.mrw b n,.lst ys _=>T=T'/\ix (fun z s'=>aG P N all K E rest (put N env d z) s') e q b n ys s
 |.raw (.slice none 0 0),.lst ys _=>T=T'/\iy (fun z s'=>aG P N all K E rest (put N env d z) s') e q ys s
 |.lst xs ox,.str l=>q'.isStr=true/\eS (fun z s'=>aG P N all K E rest (put N env d z) s') e q xs (bc l) ox s
 |_,_=>False
def s9 (d:Option Tmp)(rest:List Oper)(env:Env)(s:St)(f:VV)(xs:List VV):Prop:=
 uV P N E d (aG P N all K E rest) env s f xs
def mr (d:Option Tmp)(rest:List Oper)(env:Env)(s:St)(f:FuncId)(xs:List VV):Prop:=
 ∃(Q:SEnd->St->Prop),Bc P f xs s Q /\
  (∀x s',Q (.ret x) s'->aG P N all K E rest (put N env d x) s')/\(∀x s',Q (.panic x) s'->E x env s')
def vgd (g:VV)(want:Bool)(d:Option Tmp)(op:Op)(ty:TypeId)(p:String)(af:Array Edge)(rest:List Oper)(env:Env)(s:St):Prop:=
 match g with
 |.bool b=>if b=want then aG P N all K E (⟨d,op,ty,p,af,none⟩::rest) env s else aG P N all K E rest (put N env d (.tup [])) s
 |.tup _=>aG P N all K E rest (put N env d (.tup [])) s
 |_=>False
variable {P N all K E}
variable {d : Option Tmp} {ty T T' : TypeId} {p : String} {af : Array Edge} {rest : List Oper} {env : Env} {s : St} {x y z c a b : Operand} {i j n : Nat}
theorem KG:aG P N all K E [] env s=K env s:=rfl
theorem Ht:aG P N all K E (⟨d,.move x,ty,p,af,none⟩::rest) env s=aG P N all K E rest (put N env d (rd env x)) s:=rfl
theorem Ag:aG P N all K E (⟨d,.assign x,ty,p,af,none⟩::rest) env s=aG P N all K E rest (put N env d (rd env x)) s:=rfl
theorem CN {op:Op}{w:Bool}:aG P N all K E (⟨d,op,ty,p,af,some (j,w)⟩::rest) env s=vgd P N all K E (yv all env j) w d op ty p af rest env s:=by
 simp only[aG,vgd,iv]
 cases yv all env j<;>rfl
theorem Hs:aG P N all K E (⟨d,.pick c a b,ty,p,af,none⟩::rest) env s=s6 P N all K E d rest env s (rd env c) (rd env a) (rd env b):=by
 simp only[aG,bF,s6]
 cases rd env c<;>rfl
theorem CR:aG P N all K E (⟨d,.alloc T,ty,p,af,none⟩::rest) env s=((qi P T).zok=true/\∀b,New s b->aG P N all K E rest (put N env d (.ptr b 0)) (s.set b (.obj T (qi P T).z))):=rfl
theorem KL:aG P N all K E (⟨d,.box T x,ty,p,af,none⟩::rest) env s=((rd env x).cells.all VV.one=true/\∀b,New s b->aG P N all K E rest (put N env d (.ptr b 0)) (s.set b (.obj T (rd env x).cells))):=rfl
theorem CP {parts:Array (Nat×Operand)}:aG P N all K E (⟨d,.build T parts,ty,p,af,none⟩::rest) env s =
  (fok P T=true/\(qi P T).zok=true/\Is P N all K E d rest env s (ik P T (qi P T).z (parts.toList.map fun q=>(q.1,rd env q.2)))):=by
 simp only[aG,bF]
 cases ik P T (qi P T).z (parts.toList.map fun q=>(q.1,rd env q.2))<;>rfl
theorem qm {parts:Array (Nat×Operand)}:aG P N all K E (⟨d,.buildSlice T n parts,ty,p,af,none⟩::rest) env s =
  (parts.size=n/\(qi P (cK (qi P T))).zok=true/\n * (qi P (cK (qi P T))).sz<=16777216/\(match (qi P T).k with|.slice _=>True|_=>False) /\
   Dy P N all K E d rest env s (kU n) (gc (qi P (cK (qi P T))).sz 0 (parts.toList.map fun q=>(q.1,rd env q.2)))):=by
 simp only[aG,bF]
 cases gc (qi P (cK (qi P T))).sz 0 (parts.toList.map fun q=>(q.1,rd env q.2))<;>rfl
theorem Hu:aG P N all K E (⟨d,.load T a,ty,p,af,none⟩::rest) env s=gp P N all K E d rest env s (gq (qi P T) (rd env a) s):=by
 simp only[aG,bF]
 cases gq (qi P T) (rd env a) s<;>rfl
theorem CJ:aG P N all K E (⟨d,.store T a x,ty,p,af,none⟩::rest) env s=ml P N all K E d rest env (iq (qi P T) (rd env a) (rd env x) s):=by
 simp only[aG,bF]
 cases iq (qi P T) (rd env a) (rd env x) s<;>rfl
theorem uo:aG P N all K E (⟨d,.nilCheck x,ty,p,af,none⟩::rest) env s=Eh P N all K E d rest env s (rd env x):=rfl
theorem CQ {op:BinOp}:aG P N all K E (⟨d,.binOp op T x y T',ty,p,af,none⟩::rest) env s=gN P N all K E op T y.isConst d rest env s (rd env x) (rd env y):=by
 simp only[aG,bF,gN]
 have hn:∀(u v:VV) (b:Bool),fa (fun c=>aG P N all K E rest (put N env d (.bool (if b then !c else c))) s) (gh (qi P T).k u v)=vnl P N all K E d rest env s b (gh (qi P T).k u v):=fun u v b=>by
  cases gh (qi P T).k u v<;>rfl
 have hm:∀(us vs:List VV) (b:Bool),fa (fun c=>aG P N all K E rest (put N env d (.bool (if b then !c else c))) s) (jU P T us vs)=vnl P N all K E d rest env s b (jU P T us vs):=fun u v b=>by
  cases jU P T u v<;>rfl
 have hm1:=fun u v=>hm u v false
 have hm2:=fun u v=>hm u v true
 have hn1:=fun u v=>hn u v false
 have hn2:=fun u v=>hn u v true
 simp only[Bool.false_eq_true,if_false,if_true]at hn1 hn2 hm1 hm2
 cases rd env x<;>cases rd env y<;>first|rfl|(rename_i k a k' b;simp only;cases fC op k a b<;>rfl)|(simp only[hn1,hn2];cases op<;>rfl)|(simp only[hm1,hm2];cases op<;>rfl)
theorem xK:aG P N all K E (⟨d,.convert T T' x,ty,p,af,none⟩::rest) env s=gp P N all K E d rest env s (il P T T' (rd env x) s):=by
 simp only[aG,bF]
 cases il P T T' (rd env x) s<;>rfl
theorem Hr {op:UnOp}:aG P N all K E (⟨d,.unOp op T x,ty,p,af,none⟩::rest) env s=vun P N all K E op d rest env s (rd env x):=rfl
theorem sl:aG P N all K E (⟨d,.fieldAddr T x j,ty,p,af,none⟩::rest) env s=yg P N all K E d rest env s (rd env x) (qf P T j):=rfl
theorem CO:aG P N all K E (⟨d,.field T x j,ty,p,af,none⟩::rest) env s=Ei P N all K E d rest env s (rd env x) (qf P T j):=by
 simp only[aG,bF,Ei]
 cases rd env x<;>first|rfl|skip
 rename_i cs
 rcases qf P T j with _|⟨off,sz,ag⟩
 ·rfl
 ·simp only
  cases df cs off sz ag<;>rfl
theorem sk:aG P N all K E (⟨d,.indexAddr T x y,ty,p,af,none⟩::rest) env s=gp P N all K E d rest env s (qJ (qi P T) (qi P (cK (qi P T))).sz (rd env x) (rd env y)):=by
 simp only[aG,bF]
 cases qJ (qi P T) (qi P (cK (qi P T))).sz (rd env x) (rd env y)<;>rfl
theorem CM:aG P N all K E (⟨d,.index T x y,ty,p,af,none⟩::rest) env s=gp P N all K E d rest env s (vat (qi P T) (rd env x) (rd env y)):=by
 simp only[aG,bF]
 cases vat (qi P T) (rd env x) (rd env y)<;>rfl
theorem CK {lo hi:Option Operand}:aG P N all K E (⟨d,.slice T x lo hi none,ty,p,af,none⟩::rest) env s=gp P N all K E d rest env s (ir (qi P T) (qi P (cK (qi P T))) (rd env x) (lo.map (rd env)) (hi.map (rd env))):=by
 simp only[aG,bF,true_and]
 cases ir (qi P T) (qi P (cK (qi P T))) (rd env x) (lo.map (rd env)) (hi.map (rd env))<;>rfl
theorem lQ:aG P N all K E (⟨d,.makeInterface T x,ty,p,af,none⟩::rest) env s=((match (qi P T).k with|.iface=>False|.other=>False|_=>True)/\aG P N all K E rest (put N env d (.iface T (rd env x))) s):=rfl
theorem uq {f:FuncId}{caps:Array Operand}:aG P N all K E (⟨d,.makeFunc (.func f) #[] caps,ty,p,af,none⟩::rest) env s=aG P N all K E rest (put N env d (.fn f (caps.toList.map (rd env)))) s:=by
 simp only[aG,bF,true_and]
theorem sj {l c:Operand}:aG P N all K E (⟨d,.makeSlice T l c,ty,p,af,none⟩::rest) env s=vmk P N all K E d rest env s (qi P T).k (cK (qi P T)) (qi P (cK (qi P T))) (rd env l) (rd env c):=rfl
theorem p_mk {k1 k2:IntKind}{T1 T2:TypeId}{sz bt:Nat}{zo:Bool}{z:VV}{n m:Int}{qk:QK}:vmk P N all K E d rest env s (.slice T1) T2 ⟨qk,sz,bt,zo,[z]⟩ (.int k1 n) (.int k2 m)=(n=m/\0<=n/\n * bt<=140737488355328/\n<=140737488355328/\True/\zo=true /\
  ∀b,New s b->aG P N all K E rest (put N env d (.msl b n.toNat)) (s.set b (.obj T2 (List.replicate n.toNat z)))):=rfl
theorem xI:aG P N all K E (⟨d,.makeMap T none,ty,p,af,none⟩::rest) env s=(∀b,New s b->aG P N all K E rest (put N env d (.mp b)) (s.set b (.map []))):=rfl
theorem Af {ok:Bool}:aG P N all K E (⟨d,.lookup T x y ok,ty,p,af,none⟩::rest) env s=gp P N all K E d rest env s (fi (qi P T) (qi P (cK (qi P T))) (qi P (jK (qi P T))) (rd env x) (rd env y) ok s):=by
 simp only[aG,bF]
 cases fi (qi P T) (qi P (cK (qi P T))) (qi P (jK (qi P T))) (rd env x) (rd env y) ok s<;>rfl
theorem si:aG P N all K E (⟨d,.mapUpdate T x y z,ty,p,af,none⟩::rest) env s=ml P N all K E d rest env (gM (qi P T) (qi P (jK (qi P T))) (rd env x) (rd env y) (rd env z) s):=by
 simp only[aG,bF]
 cases gM (qi P T) (qi P (jK (qi P T))) (rd env x) (rd env y) (rd env z) s<;>rfl
theorem xJ:aG P N all K E (⟨d,.extract x i,ty,p,af,none⟩::rest) env s=Ej P N all K E d rest env s (rd env x) i:=by
 simp only[aG,bF,Ej]
 cases rd env x<;>first|rfl|skip
 rename_i xs
 simp only
 cases xs[i]?<;>rfl
theorem CL:aG P N all K E (⟨d,.panic x,ty,p,af,none⟩::rest) env s=Ir E env s (rd env x):=rfl
theorem Hv {args:Array Operand}{ts:Array TypeId}:aG P N all K E (⟨d,.call ⟨.value x,args,ts⟩,ty,p,af,none⟩::rest) env s=s9 P N all K E d rest env s (rd env x) (args.toList.map (rd env)):=rfl
theorem KJ:aG P N all K E (⟨d,.call ⟨.builtin .len,#[x],#[T]⟩,ty,p,af,none⟩::rest) env s=gp P N all K E d rest env s (jw (qi P T) (rd env x) s):=by
 simp only[aG,bF]
 cases jw (qi P T) (rd env x) s<;>rfl
theorem KH {ts:Array TypeId}:aG P N all K E (⟨d,.call ⟨.builtin .min,#[x,y],ts⟩,ty,p,af,none⟩::rest) env s=gp P N all K E d rest env s (ei false (rd env x) (rd env y)):=by
 simp only[aG,bF]
 cases ei false (rd env x) (rd env y)<;>rfl
theorem KI {ts:Array TypeId}:aG P N all K E (⟨d,.call ⟨.builtin .max,#[x,y],ts⟩,ty,p,af,none⟩::rest) env s=gp P N all K E d rest env s (ei true (rd env x) (rd env y)):=by
 simp only[aG,bF]
 cases ei true (rd env x) (rd env y)<;>rfl
theorem Ah:aG P N all K E (⟨d,.call ⟨.builtin .append,#[x,y],#[T,T']⟩,ty,p,af,none⟩::rest) env s =
  ((match (qi P T).k with|.slice _=>True|_=>False)/\nY P N all K E d rest env s T T' (qi P T').k (cK (qi P T)) (qi P (cK (qi P T))) (rd env x) (rd env y)):=by
 simp only[aG,bF,nY]
 cases rd env x<;>cases rd env y<;>rfl
variable {xs ys cs : List VV} {f : FuncId} {v w : VV} {o : Own} {t u : Bool} {k k' : IntKind} {q r : Int} {sa sb : List UInt8} {l l' : List (List VV)} {Q : QI} {op : Op} {n' : Nat} {o' : Own} {cy : Bool} {v1 w1 : Value}
theorem tR:put N env none v=env:=rfl
theorem tQ:put N env (some i) v=if i<N then upd env i v else env:=rfl
theorem Ji:upd env i v j=if j=i then v else env j:=rfl
theorem Jl:rd env (.tmp i)=env i:=rfl
theorem Co {v:Value}:rd env (.const v)=cv v:=rfl
theorem GR:rd env (.func f)=.fn f []:=rfl
theorem GZ:cv (.int k q)=.int k q:=rfl
theorem Cp:cv (.bool t)=.bool t:=rfl
theorem GX {a:Array UInt8}:cv (.string ⟨a⟩)=.str a.toList:=rfl
theorem GY:cv (.slice none 0 0)=.lst [] .full:=rfl
theorem Gb:gp P N all K E d rest env s (some v)=aG P N all K E rest (put N env d v) s:=rfl
theorem B8:ml P N all K E d rest env (some s)=aG P N all K E rest (put N env d (.tup [])) s:=rfl
theorem Gs:s6 P N all K E d rest env s (.bool t) v w=aG P N all K E rest (put N env d (if t then v else w)) s:=rfl
theorem GC:Eh P N all K E d rest env s (.ptr i j)=aG P N all K E rest (put N env d (.ptr i j)) s:=by simp[Eh]
theorem G4 {op:BinOp}:gN P N all K E op T cy d rest env s (.int k q) (.int k r)=gp P N all K E d rest env s (fC op k q r):=by simp[gN]
theorem Gp:gN P N all K E .add T cy d rest env s (.str sa) (.str sb)=(sa.length+sb.length<=9223372036854775807/\aG P N all K E rest (put N env d (.str (sa++sb))) s):=rfl
theorem Gm:gN P N all K E .eql T cy d rest env s (.str sa) (.str sb)=aG P N all K E rest (put N env d (.bool (decide (sa=sb)))) s:=rfl
theorem Gk:gN P N all K E .neq T cy d rest env s (.str sa) (.str sb)=aG P N all K E rest (put N env d (.bool !(decide (sa=sb)))) s:=rfl
theorem G5:gN P N all K E .eql T cy d rest env s (.bool t) (.bool u)=((match (qi P T).k with|.bool=>True|_=>False)/\aG P N all K E rest (put N env d (.bool (t == u))) s):=rfl
theorem G3:gN P N all K E .neq T cy d rest env s (.bool t) (.bool u)=((match (qi P T).k with|.bool=>True|_=>False)/\aG P N all K E rest (put N env d (.bool !(t == u))) s):=rfl
theorem Cr {xs ys:List VV}:gN P N all K E .eql T cy d rest env s (.agg xs) (.agg ys)=vnl P N all K E d rest env s false (jU P T xs ys):=rfl
theorem Cq {xs ys:List VV}:gN P N all K E .neq T cy d rest env s (.agg xs) (.agg ys)=vnl P N all K E d rest env s true (jU P T xs ys):=rfl
theorem tY:gN P N all K E .eql T cy d rest env s (.iface T' v) (.raw w1)=(cy=true/\vnl P N all K E d rest env s false (gh (qi P T).k (.iface T' v) (.raw w1))):=rfl
theorem tX:gN P N all K E .neq T cy d rest env s (.iface T' v) (.raw w1)=(cy=true/\vnl P N all K E d rest env s true (gh (qi P T).k (.iface T' v) (.raw w1))):=rfl
theorem tW:gN P N all K E .eql T cy d rest env s (.raw v1) (.raw w1)=(cy=true/\vnl P N all K E d rest env s false (gh (qi P T).k (.raw v1) (.raw w1))):=rfl
theorem tU:gN P N all K E .neq T cy d rest env s (.raw v1) (.raw w1)=(cy=true/\vnl P N all K E d rest env s true (gh (qi P T).k (.raw v1) (.raw w1))):=rfl
theorem tT:gN P N all K E .eql T cy d rest env s (.ptr i j) (.raw w1)=(cy=true/\vnl P N all K E d rest env s false (gh (qi P T).k (.ptr i j) (.raw w1))):=rfl
theorem tS:gN P N all K E .neq T cy d rest env s (.ptr i j) (.raw w1)=(cy=true/\vnl P N all K E d rest env s true (gh (qi P T).k (.ptr i j) (.raw w1))):=rfl
theorem GA:gh .iface (.iface T v) (.raw .nilIface)=some false:=rfl
theorem Cf:gh .iface (.raw .nilIface) (.raw .nilIface)=some true:=rfl
theorem Gz:gh .ptr (.ptr i j) (.raw (.pointer none))=some false:=rfl
theorem Ge {b:Bool}:vnl P N all K E d rest env s false (some b)=aG P N all K E rest (put N env d (.bool b)) s:=rfl
theorem Gc {b:Bool}:vnl P N all K E d rest env s true (some b)=aG P N all K E rest (put N env d (.bool !b)) s:=rfl
theorem JZ {v:Value}:(Operand.const v).isConst=true:=rfl
theorem ql {b:Bool}:aG P N all K E (⟨d,.typeAssert x T' T b,ty,p,af,none⟩::rest) env s=(b=true/\(match (qi P T).k with|.iface=>False|.other=>False|_=>True)/\vta P N all K E d rest env s T (rd env x)):=by
 simp only[aG,bF,vta]
 cases rd env x<;>rfl
theorem p_ta:vta P N all K E d rest env s T (.iface T' v)=(T'=T/\aG P N all K E rest (put N env d (.tup [v,.bool true])) s):=rfl
theorem JM:vun P N all K E .not d rest env s (.bool t)=aG P N all K E rest (put N env d (.bool !t)) s:=rfl
theorem JO:vun P N all K E .neg d rest env s (.int k q)=aG P N all K E rest (put N env d (.int k (k.wrap (0 - q)))) s:=rfl
theorem J5:yg P N all K E d rest env s (.eptr cs) (some (i,j,t))=(i<=cs.length/\aG P N all K E rest (put N env d (.eptr (cs.drop i))) s):=rfl
theorem J4:yg P N all K E d rest env s (.ptr n j) (some (i,n',t))=aG P N all K E rest (put N env d (.ptr n (j+i))) s:=rfl
theorem p_f:Ei P N all K E d rest env s (.agg cs) (some (i,j,t))=gp P N all K E d rest env s (df cs i j t):=rfl
theorem J6:Ej P N all K E d rest env s (.tup xs) i=gp P N all K E d rest env s xs[i]?:=rfl
theorem Jy:Ir E env s (.iface T v)=E (.iface T v) env s:=rfl
theorem Kt:Is P N all K E d rest env s (some cs)=aG P N all K E rest (put N env d (.agg cs)) s:=rfl
theorem Jv:Dy P N all K E d rest env s o (some l)=aG P N all K E rest (put N env d (.lst l o)) s:=rfl
theorem JG:kU 0=.no:=rfl
theorem JF:kU (n+1)=.full:=rfl
theorem G0:s9 P N all K E d rest env s (.fn f cs) xs=mr P N all K E d rest env s f (xs++cs):=by
 unfold s9 uV mr
 apply propext
 constructor
 ·rintro⟨g,caps,Q,h,rest⟩
  injection h with h1 h2
  subst h1;subst h2
  exact⟨Q,rest⟩
 ·rintro⟨Q,rest⟩
  exact⟨f,cs,Q,rfl,rest⟩
theorem p_gt:vgd P N all K E (.bool true) true d op ty p af rest env s=aG P N all K E (⟨d,op,ty,p,af,none⟩::rest) env s:=by simp[vgd]
theorem p_gf:vgd P N all K E (.bool false) false d op ty p af rest env s=aG P N all K E (⟨d,op,ty,p,af,none⟩::rest) env s:=by simp[vgd]
theorem J1:vgd P N all K E (.bool true) false d op ty p af rest env s=aG P N all K E rest (put N env d (.tup [])) s:=by simp[vgd]
theorem J2:vgd P N all K E (.bool false) true d op ty p af rest env s=aG P N all K E rest (put N env d (.tup [])) s:=by simp[vgd]
theorem p_gu:vgd P N all K E (.tup xs) t d op ty p af rest env s=aG P N all K E rest (put N env d (.tup [])) s:=by simp[vgd]
def p7:List Oper->Nat->Option Tmp
 |[],_=>none
 |o::_,0=>o.dst
 |_::l,n+1=>p7 l n
theorem vz:∀(l:List Oper) (j:Nat),p7 l j=(l[j]?).bind (·.dst)
 |[],j=>by simp[p7]
 |o::l,0=>by simp[p7]
 |o::l,j+1=>by simp[p7,vz l j]
def yvd (env:Env):Option Tmp->VV
 |some t=>env t
 |none=>.tup []
theorem p_yv:yv all env j=yvd env (p7 all j):=by
 rw[vz]
 unfold yv yvd
 cases (all[j]?).bind (·.dst)<;>rfl
theorem Jf:yvd env (some i)=env i:=rfl
theorem Gy {g:Option (Nat×Bool)}{l:List Oper}:p7 (⟨d,op,ty,p,af,g⟩::l) 0=d:=rfl
theorem Gx {o:Oper}{l:List Oper}:p7 (o::l) (n+1)=p7 l n:=rfl
theorem Jx:fC .quo k q r=if r≠0 then some (.int k (k.wrap (q.tdiv r)))else none:=rfl
theorem Jw:fC .rem k q r=if r≠0 then some (.int k (q.tmod r))else none:=rfl
theorem Ks:fC .and k q r=some (.int k (CZ k q r)):=rfl
theorem p_or:fC .or k q r=some (.int k (bOr k q r)):=rfl
theorem Jg:fC .xor k q r=some (.int k (CY k q r)):=rfl
theorem zK:fC .andNot k q r=some (.int k (mc k q r)):=rfl
theorem Jt:fC .shl k q r=if 0<=r then some (.int k (k.wrap (q * 2 ^ (min r.toNat k.bits))))else none:=rfl
theorem Js:fC .shr k q r=if 0<=r then some (.int k (q.fdiv (2 ^ (min r.toNat k.bits))))else none:=rfl
theorem Ku:fC .add k q r=some (.int k (k.wrap (q+r))):=rfl
theorem Jm:fC .sub k q r=some (.int k (k.wrap (q - r))):=rfl
theorem JP:fC .mul k q r=some (.int k (k.wrap (q * r))):=rfl
theorem J7:fC .eql k q r=some (.bool (decide (q=r))):=rfl
theorem JN:fC .neq k q r=some (.bool !(decide (q=r))):=rfl
theorem JQ:fC .lss k q r=some (.bool (decide (q<r))):=rfl
theorem JT:fC .leq k q r=some (.bool (decide (q<=r))):=rfl
theorem J0:fC .gtr k q r=some (.bool (decide (r<q))):=rfl
theorem J3:fC .geq k q r=some (.bool (decide (r<=q))):=rfl
theorem JY:gq Q (.eptr cs) s=df cs 0 Q.sz Q.k.agg:=rfl
def mn (Q:QI)(off:Nat):Cell->Option VV
 |.obj _ xs=>df xs off Q.sz Q.k.agg
 |.pk _ xs _=>df xs off Q.sz Q.k.agg
 |.row _ _ xs=>df xs off Q.sz Q.k.agg
 |_=>none
theorem JX:gq Q (.ptr i j) s=mn Q j (s i):=by
 unfold gq mn
 simp only
 cases s i<;>rfl
theorem JW:mn Q j (.obj T xs)=df xs j Q.sz Q.k.agg:=rfl
theorem JU {sz:Nat}:mn Q j (.row T sz xs)=df xs j Q.sz Q.k.agg:=rfl
theorem JV {rs:List (Nat×TypeId×Nat)}:mn Q j (.pk T xs rs)=df xs j Q.sz Q.k.agg:=rfl
def jT (Q:QI)(b off:Nat)(x:VV)(s:St):Cell->Option St
 |.obj T xs=>if x.cells.length=Q.sz/\0<Q.sz/\off+Q.sz<=xs.length/\x.cells.all VV.one=true then some (s.set b (.obj T (splice xs off x.cells)))else none
 |.pk T xs rs=>if x.cells.length=Q.sz/\0<Q.sz/\off+Q.sz<=xs.length/\x.cells.all VV.one=true then some (s.set b (.pk T (splice xs off x.cells) (ka off Q.sz rs)))else none
 |.row T sz xs=>if x.cells.length=Q.sz/\0<Q.sz/\off+Q.sz<=xs.length/\x.cells.all VV.one=true then some (s.set b (.row T sz (splice xs off x.cells)))else none
 |_=>none
theorem p_st:iq Q (.ptr i j) v s=jT Q i j v s (s i):=by
 unfold iq jT
 simp only
 cases s i<;>rfl
theorem Jp:jT Q i j v s (.obj T xs)=if v.cells.length=Q.sz/\0<Q.sz/\j+Q.sz<=xs.length/\v.cells.all VV.one=true then some (s.set i (.obj T (splice xs j v.cells)))else none:=rfl
theorem Jn {sz:Nat}:jT Q i j v s (.row T sz xs)=if v.cells.length=Q.sz/\0<Q.sz/\j+Q.sz<=xs.length/\v.cells.all VV.one=true then some (s.set i (.row T sz (splice xs j v.cells)))else none:=rfl
theorem Jo {rs:List (Nat×TypeId×Nat)}:jT Q i j v s (.pk T xs rs)=if v.cells.length=Q.sz/\0<Q.sz/\j+Q.sz<=xs.length/\v.cells.all VV.one=true then some (s.set i (.pk T (splice xs j v.cells) (ka j Q.sz rs)))else none:=rfl
theorem Ci:ka i n []=[]:=rfl
theorem Ch {r:Nat×TypeId×Nat}{rs:List (Nat×TypeId×Nat)}:ka i n (r::rs)=if r.1<i\/i+n<=r.1 then r::ka i n rs else ka i n rs:=by simp only[ka,List.filter_cons,Bool.or_eq_true,decide_eq_true_eq]
theorem Ju {c:Cell}:St.set s i c j=if j=i then c else s j:=rfl
theorem Gt:df cs i j t=if i+j<=cs.length then(if t then some (.agg ((cs.drop i).take j))else if j=1 then cs[i]? else none)else none:=rfl
theorem Gn:QK.struct.agg=true:=rfl
theorem Ha:(QK.array i T).agg=true:=rfl
theorem G6:QK.bool.agg=false:=rfl
theorem GQ:(QK.int k).agg=false:=rfl
theorem Gi:QK.str.agg=false:=rfl
theorem GM:(QK.slice T).agg=false:=rfl
theorem GD:(QK.map T T').agg=false:=rfl
theorem Gu:QK.ptr.agg=false:=rfl
theorem GT:QK.iface.agg=false:=rfl
theorem Gg:QK.func.agg=false:=rfl
theorem Km:(VV.agg cs).cells=cs:=rfl
theorem Kg:(VV.int k q).cells=[.int k q]:=rfl
theorem Kl:(VV.bool t).cells=[.bool t]:=rfl
theorem J8:(VV.str sa).cells=[.str sa]:=rfl
theorem Kf:(VV.lst l o).cells=[.lst l o]:=rfl
theorem Ka:(VV.ptr i j).cells=[.ptr i j]:=rfl
theorem Kk:(VV.eptr cs).cells=[.eptr cs]:=rfl
theorem Kj:(VV.fn f cs).cells=[.fn f cs]:=rfl
theorem Ke:(VV.mp i).cells=[.mp i]:=rfl
theorem J9 {v:Value}:(VV.raw v).cells=[.raw v]:=rfl
theorem Ki:(VV.iface T v).cells=[.iface T v]:=rfl
theorem JH:(VV.int k q).one=true:=rfl
theorem JL:(VV.bool t).one=true:=rfl
theorem Jz:(VV.str sa).one=true:=rfl
theorem JE:(VV.lst l o).one=true:=rfl
theorem JA:(VV.ptr i j).one=true:=rfl
theorem JK:(VV.eptr cs).one=true:=rfl
theorem JJ:(VV.fn f cs).one=true:=rfl
theorem JD:(VV.mp i).one=true:=rfl
theorem JI:(VV.iface T v).one=true:=rfl
theorem Gf {sz:Nat}{bt:Nat}{zo:Bool}{zz:List VV}:qJ ⟨.slice T,j,bt,zo,zz⟩ sz (.lst l o) (.int k q)=if 0<=q then(l[q.toNat]?).bind fun cs=>if cs.length=sz/\0<sz then some (.eptr cs)else none else none:=rfl
theorem Ca {sz bt m:Nat}{zo:Bool}{zz:List VV}:qJ ⟨.slice T,j,bt,zo,zz⟩ sz (.msl i m) (.int k q)=if 0<=q/\q.toNat<m/\sz=1 then some (.ptr i q.toNat)else none:=rfl
theorem B9 {sz bt m:Nat}{zo:Bool}{zz:List VV}:qJ ⟨.slice T,j,bt,zo,zz⟩ sz (.mrw i m) (.int k q)=if 0<=q/\q.toNat<m/\0<sz then some (.ptr i (q.toNat * sz))else none:=rfl
theorem GH {sz bt m:Nat}{zo:Bool}{zz:List VV}:jw ⟨.slice T,sz,bt,zo,zz⟩ (.mrw i m) s=some (.int .i64 m):=rfl
theorem GI {sz bt:Nat}{zo:Bool}{zz:List VV}:jw ⟨.slice T,sz,bt,zo,zz⟩ (.raw (.slice none 0 0)) s=some (.int .i64 0):=rfl
theorem JC {m:Nat}:(VV.mrw i m).one=true:=rfl
theorem Kd {m:Nat}:(VV.mrw i m).cells=[.mrw i m]:=rfl
theorem Jr {sz bt m:Nat}{zo:Bool}{zz:List VV}{qe:QI}{lo hi:Option VV}:ir ⟨.slice T,sz,bt,zo,zz⟩ qe (.mrw i m) lo hi =
  match cR lo 0,cR hi m with
  |some a,some b=>if a=0/\b<=m/\0<qe.sz then some (.mrw i b)else none
  |_,_=>none:=rfl
theorem GJ {sz bt m:Nat}{zo:Bool}{zz:List VV}:jw ⟨.slice T,sz,bt,zo,zz⟩ (.msl i m) s=some (.int .i64 m):=rfl
theorem JB {m:Nat}:(VV.msl i m).one=true:=rfl
theorem Kc {m:Nat}:(VV.msl i m).cells=[.msl i m]:=rfl
theorem Jh {sz:Nat}{bt:Nat}{zo:Bool}{zz:List VV}:vat ⟨.str,sz,bt,zo,zz⟩ (.str sa) (.int k q)=if 0<=q then(sa[q.toNat]?).map fun c=>.int .u8 (c.toNat:Int)else none:=rfl
theorem GF {sz:Nat}{bt:Nat}{zo:Bool}{zz:List VV}:jw ⟨.str,sz,bt,zo,zz⟩ (.str sa) s=some (.int .i64 sa.length):=rfl
theorem GK {sz:Nat}{bt:Nat}{zo:Bool}{zz:List VV}:jw ⟨.slice T,sz,bt,zo,zz⟩ (.lst l o) s=some (.int .i64 l.length):=rfl
theorem Gl {sz:Nat}{bt:Nat}{zo:Bool}{zz:List VV}{qe:QI}{lo hi:Option VV}:ir ⟨.slice T,sz,bt,zo,zz⟩ qe (.lst l o) lo hi =
  match cR lo 0,cR hi l.length with
  |some a,some b=>if a<=b/\b<=l.length/\0<qe.sz/\(∀x,x∈l->x.length=qe.sz)then some (.lst ((l.take b).drop a) .no)else none
  |_,_=>none:=rfl
theorem Gj {sz:Nat}{bt:Nat}{zo:Bool}{zz:List VV}{qe:QI}{lo hi:Option VV}:ir ⟨.str,sz,bt,zo,zz⟩ qe (.str sa) lo hi =
  match cR lo 0,cR hi sa.length with
  |some a,some b=>if a<=b/\b<=sa.length then some (.str ((sa.take b).drop a))else none
  |_,_=>none:=rfl
theorem Kq:cR none n=some n:=rfl
theorem Ko:cR (some (.int k q)) n=if 0<=q then some q.toNat else none:=rfl
theorem p_et {sz:Nat}{bt:Nat}{zo:Bool}{zz:List VV}:cK ⟨.slice T,sz,bt,zo,zz⟩=T:=rfl
theorem p_em {sz:Nat}{bt:Nat}{zo:Bool}{zz:List VV}:cK ⟨.map T T',sz,bt,zo,zz⟩=T':=rfl
theorem p_es {sz:Nat}{bt:Nat}{zo:Bool}{zz:List VV}:cK ⟨.str,sz,bt,zo,zz⟩=0:=rfl
theorem p_km {sz:Nat}{bt:Nat}{zo:Bool}{zz:List VV}:jK ⟨.map T T',sz,bt,zo,zz⟩=T:=rfl
theorem Kr {q':QK}{e:TypeId}:nY P N all K E d rest env s T T q' e Q (.lst l o) (.lst l' o')=eS (fun z s'=>aG P N all K E rest (put N env d z) s') e Q l l' o s:=by
 simp[nY]
theorem Cc {b i b' j:Nat}:gN P N all K E .eql T cy d rest env s (.ptr b i) (.ptr b' j)=(pok P T=true/\b=b'/\i=j/\aG P N all K E rest (put N env d (.bool true)) s):=rfl
theorem Cb {b i b' j:Nat}:gN P N all K E .neq T cy d rest env s (.ptr b i) (.ptr b' j)=(pok P T=true/\b=b'/\i=j/\aG P N all K E rest (put N env d (.bool false)) s):=rfl
theorem Cn:il P T T' (.int k q) s=match (qi P T).k,(qi P T').k with|.int _,.int k'=>some (.int k' (k'.wrap q))|_,_=>none:=rfl
theorem Cm {b i:Nat}:il P T T' (.ptr b i) s=match s b with|.obj U xs=>if An P T T' U xs.length i=true then some (.ptr b i)else none|_=>none:=rfl
theorem iz:∀l:List UInt8,fj (bc l)=some l
 |[]=>rfl
 |c::l=>by
  have h:(c.toNat:Int)<256:=by have:=c.toNat_lt;omega
  have e:UInt8.ofNat (c.toNat:Int).toNat=c:=by simp
  have:=iz l
  simp only[bc,List.map_cons,fj]at this ⊢
  rw[if_pos ⟨by omega,h⟩,this,e];rfl
theorem Cl:il P T T' (.lst (bc sa) o) s=match (qi P T).k,(qi P T').k with|.slice e,.str=>if Hj (qi P e).k=true then some (.str sa)else none|_,_=>none:=by
 simp only[il,iz];rfl
theorem GP:Hj (.int .u8)=true:=rfl
theorem G8 {q':QK}{e:TypeId}{b n:Nat}:nY P N all K E d rest env s T T q' e Q (.mrw b n) (.lst l' o')=ix (fun z s'=>aG P N all K E rest (put N env d z) s') e Q b n l' s:=by
 simp[nY]
theorem G9 {q':QK}{e:TypeId}:nY P N all K E d rest env s T T q' e Q (.raw (.slice none 0 0)) (.lst l' o')=iy (fun z s'=>aG P N all K E rest (put N env d z) s') e Q l' s:=by
 simp[nY]
theorem G7 {e:TypeId}:nY P N all K E d rest env s T T' .str e Q (.lst l o) (.str sa)=eS (fun z s'=>aG P N all K E rest (put N env d z) s') e Q l (bc sa) o s:=by
 simp[nY,QK.isStr]
theorem GW:qh (v::xs) 0=v:=rfl
theorem GU:qh (v::xs) (n+1)=qh xs n:=by simp[qh]
theorem GV:qh [] n=.tup []:=rfl
theorem Jq {α:Type}{a b:List α}:splice a n b=a.take n++b++a.drop (n+b.length):=rfl
theorem B6 {r:ResultVar}:jv P env s [r]=qI P env s r:=rfl
theorem B7:jv P env s []=some (.tup []):=rfl
theorem B5 {r r':ResultVar}{rs:List ResultVar}:jv P env s (r::r'::rs)=(iu P env s (r::r'::rs)).map .tup:=rfl
theorem Gw:qI P env s (.tmp i)=some (env i):=rfl
theorem Gv:qI P env s (.cell i T)=gq (qi P T) (env i) s:=rfl
theorem Ce:iu P env s []=some []:=rfl
theorem Cd {r:ResultVar}{rs:List ResultVar}:iu P env s (r::rs)=match qI P env s r,iu P env s rs with|some x,some xs=>some (x::xs)|_,_=>none:=rfl
theorem Ck:ik P T cs []=some cs:=rfl
theorem Cj {rest:List (Nat×VV)}:ik P T cs ((j,v)::rest)=match qf P T j with
  |some (off,sz,_)=>if v.cells.length=sz/\off+sz<=cs.length/\v.cells.all VV.one=true then ik P T (splice cs off v.cells) rest else none
  |none=>none:=rfl
theorem Gr:gc n i []=some []:=rfl
theorem Gq {rest:List (Nat×VV)}:gc n i ((j,v)::rest)=if j=i/\v.cells.length=n/\v.cells.all VV.one=true then(gc n (i+1) rest).map (v.cells::·)else none:=rfl
theorem zJ {x y:Code}{D:List Deferred}{kk:List Itm}{QQ:Pst}:mq P N D (.bool true) x y kk QQ env s=Kp P N D (.code x::kk) QQ .norm env s:=mo
theorem zI {x y:Code}{D:List Deferred}{kk:List Itm}{QQ:Pst}:mq P N D (.bool false) x y kk QQ env s=Kp P N D (.code y::kk) QQ .norm env s:=lk
theorem GN {a b:VV}:(if true=true then a else b)=a:=rfl
theorem GO {a b:VV}:(if false=true then a else b)=b:=rfl
def SRet (P:Program)(f:FuncId)(xs:List VV)(s:St)(y:VV)(s':St):Prop:=SCalls P f xs s fun e t=>e=.ret y/\t=s'
theorem ak {s':St}(hc:aq P f)(h:SRet P f xs s v s')(hr:aG P N all K E rest (put N env d v) s'):mr P N all K E d rest env s f xs:=
 ⟨_,.inl ⟨hc,h⟩,fun x t q=>by obtain⟨e,e'⟩:=q;injection e with e;subst e;subst e';exact hr,fun x t q=>by cases q.1⟩
theorem sA {s':St}(h:Db P f xs s fun e t=>e=.ret v/\t=s')(hr:aG P N all K E rest (put N env d v) s'):mr P N all K E d rest env s f xs:=
 ⟨_,.inr h,fun x t q=>by obtain⟨e,e'⟩:=q;injection e with e;subst e;subst e';exact hr,(fun x t q=>by cases q.1)⟩
theorem bN {rs:List ResultVar}{s':St}(h:jv P env s rs=some v)(hf:Fg s s'):Qf P rs (fun e t=>e=.ret v/\t=s') .ret env s:=
 ⟨v,h,v,s',Wk.refl v,hf,rfl,rfl⟩
end
def St.own (s:St)(o:Own)(T:TypeId)(sz n:Nat):St:=
 match o with
 |.at_ b=>s.set b (.vec T sz n)
 |_=>s
def OwnOk (s:St)(o:Own)(n:Nat):Prop:=
 match o with
 |.no=>False
 |.full=>n=0
 |.at_ b=>s b=.free
theorem Fg.own {s:St}{o:Own}{T:TypeId}{sz n m:Nat}(h:OwnOk s o m):Fg (s.own o T sz n) s:=by
 cases o with
 |no=>exact Fg.refl s
 |full=>exact Fg.refl s
 |at_ b=>exact v_ _ h
attribute [go_sem ↓] KG Ht Ag CN Hs CR KL CP qm Hu CJ uo CQ Hr sl CO sk CM CK lQ uq xI Af si xJ CL Hv KJ KH KI Ah
attribute [go_sem] tR tQ Ji Jl Co GR GZ Cp GX GY Gb B8 Gs GC G4 Gp Gm Gk G5 G3 JM JO Jx Jw Ks p_or Jg zK Jt Js J5 J4 p_f J6 Jy Kt Jv G0 p_gt p_gf J1 J2 p_gu p_yv Ku Jm JP J7 JN JQ JT J0 J3 JY JX JW p_st Jp Jo JV Ci Ch Ju Gt Gn Ha G6 GQ Gi GM GD Gu GT Gg Km Kg Kl J8 Kf Ka Kk Kj Ke J9 Ki JH JL Jz JE JA JK JJ JD JI Gf Jh GF GK Gl Gj Kq Ko p_et p_em p_es p_km Kr G7 JG JF Cc Cb Cn Cm Cl GP GW GU GV Jq B6 B7 B5 Gw Gv Ce Cd Ck Cj Gr Gq zJ zI GN GO
attribute [go_sem ↓] ql xK sj
attribute [go_sem] p_mk Ca GJ JB Kc Int.toNat_natCast JU Jn B9 GH GI JC Kd Jr G8 G9
attribute [go_sem] tY tX tW tU tT tS GA Cf Gz Ge Gc JZ p_ta
attribute [go_sem] Jf Gy Gx Cr Cq jU eqF eq1 Option.bind_some Option.bind_none Option.map_some Option.map_none
theorem gn {n:Int}(h1:-9223372036854775808<=n)(h2:n<=9223372036854775807):IntKind.i64.wrap n=n:=by
 simp only[IntKind.wrap,IntKind.bits,IntKind.signed]
 simp
 omega
attribute [go_sem] gn Int.cast_ofNat_Int List.size_toArray
attribute [go_sem] decide_true decide_false Bool.not_true Bool.not_false and_true true_and Bool.false_eq_true List.length_cons List.length_nil List.getElem?_cons_zero List.getElem?_cons_succ Option.bind_some Option.map_some Option.map_none Option.bind_none List.map_cons List.map_nil List.all_cons List.all_nil Bool.and_true Bool.true_and Bool.and_false Bool.false_and List.take_succ_cons List.take_zero List.drop_succ_cons List.drop_zero List.cons_append List.nil_append List.append_nil Int.toNat_natCast List.drop_nil List.take_nil Bool.and_self Nat.zero_add Nat.add_zero Int.zero_add Int.add_zero
theorem LQ (x:Int)(j:Nat)(hj:j<=62):CZ .i64 x (2 ^ j - 1)=x % 2 ^ j:=by
 have hp:(2:Int) ^ j=((2 ^ j:Nat):Int):=by simp
 have hle:2 ^ j<=2 ^ 62:=Nat.pow_le_pow_right (by omega) hj
 have hpos:0<2 ^ j:=Nat.pow_pos (by omega)
 have h1:(BitVec.ofInt IntKind.i64.bits x &&& BitVec.ofInt IntKind.i64.bits (2 ^ j - 1)).toNat=(x % 2 ^ j).toNat:=by
  rw[BitVec.toNat_and,BitVec.toNat_ofInt,BitVec.toNat_ofInt]
  have e2:((2:Int) ^ j - 1) % ((2 ^ IntKind.i64.bits:Nat):Int)=((2 ^ j - 1:Nat):Int):=by
   rw[show ((2:Int) ^ j - 1)=((2 ^ j - 1:Nat):Int) by omega]
   exact Int.emod_eq_of_lt (by omega) (by
    have:(2 ^ 62:Nat)<2 ^ IntKind.i64.bits:=by decide
    omega)
  rw[e2]
  show _ &&& (2 ^ j - 1)=_
  rw[Nat.and_two_pow_sub_one_eq_mod]
  have hd:((2 ^ IntKind.i64.bits:Nat):Int)=2 ^ j * ((2 ^ (64 - j):Nat):Int):=by
   rw[hp,<- Int.natCast_mul,<- Nat.pow_add,show j+(64 - j)=64 by omega];rfl
  have h0:0<=x % ((2 ^ IntKind.i64.bits:Nat):Int):=Int.emod_nonneg _ (by decide)
  have:(((x % ((2 ^ IntKind.i64.bits:Nat):Int)).toNat % 2 ^ j:Nat):Int)=((x % 2 ^ j).toNat:Int):=by
   rw[Int.natCast_emod,Int.toNat_of_nonneg h0,Int.toNat_of_nonneg (Int.emod_nonneg _ (by omega)),<- hp,hd]
   exact Int.emod_emod_of_dvd _ ⟨_,rfl⟩
  exact Int.ofNat.inj this
 unfold CZ
 rw[h1,Int.toNat_of_nonneg (Int.emod_nonneg _ (by omega))]
 have h3:=Int.emod_lt_of_pos x (show (0:Int)<2 ^ j by omega)
 have h4:=Int.emod_nonneg x (show (2:Int) ^ j≠0 by omega)
 exact gn (by omega) (by omega)
end Go.Proofs.YteldpmgepfaiiaaGreatDoor
set_option maxRecDepth 100000
namespace Go.Proofs.YteldpmgepfaiiaaGreatDoor
open Go.RowKit
theorem BM (at_:Int){n:Nat}(hn:0<n):∃k:Nat,(CZ .i64 at_ 255).tmod (n:Int)=(k:Int)/\k<n:=by
 have h1:=LQ at_ 8 (by omega)
 have h2:CZ .i64 at_ 255=at_ % 256:=h1
 have h3:0<=at_ % 256:=Int.emod_nonneg _ (by omega)
 rw[h2,Int.tmod_eq_emod_of_nonneg h3]
 have h4:0<=at_ % 256 % (n:Int):=Int.emod_nonneg _ (by omega)
 have h5:at_ % 256 % (n:Int)<n:=Int.emod_lt_of_pos _ (by omega)
 exact⟨(at_ % 256 % (n:Int)).toNat,by omega,by omega⟩
end Go.Proofs.YteldpmgepfaiiaaGreatDoor
