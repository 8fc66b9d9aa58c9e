/- Walks of functions, and plain facts. Conditions: those in the statements. -/
import Derived.Test.YteldpmgepfaiiaaGreatDoorQsDrawj
set_option linter.unusedSimpArgs false
set_option linter.unusedVariables false
set_option linter.defProp false
namespace Go.Proofs.YteldpmgepfaiiaaGreatDoor
open Go.RowKit
section
variable (P : Program) (N : Nat) (all : List Oper) (K : Env -> St -> Prop) (E : VV -> Env -> St -> Prop)
def gC (d:Option Tmp)(rest:List Oper)(env:Env)(s:St):Option VV->Prop
 |some z=>aJ P N all K E rest (put N env d z) s
 |none=>False
def mZ (d:Option Tmp)(rest:List Oper)(env:Env):Option St->Prop
 |some s=>aJ P N all K E rest (put N env d (.tup [])) s
 |none=>False
def uD (d:Option Tmp)(rest:List Oper)(env:Env)(s:St)(c a b:VV):Prop:=
 match c with
 |.bool t=>aJ P N all K E rest (put N env d (if t then a else b)) s
 |_=>False
def FF (d:Option Tmp)(rest:List Oper)(env:Env)(s:St)(x:VV):Prop:=
 (match x with|.ptr _ _=>True|.eptr _=>True|.fn _ _=>True|.mp _=>True|_=>False)/\aJ P N all K E rest (put N env d x) s
def vta (d:Option Tmp)(rest:List Oper)(env:Env)(s:St)(T:TypeId):VV->Prop
 |.iface T' v=>T'=T/\aJ P N all K E rest (put N env d (.tup [v,.bool true])) s
 |_=>False
def vnl (d:Option Tmp)(rest:List Oper)(env:Env)(s:St)(neg:Bool):Option Bool->Prop
 |some b=>aJ P N all K E rest (put N env d (.bool (if neg then !b else b))) s
 |none=>False
def vmk (d:Option Tmp)(rest:List Oper)(env:Env)(s:St)(k:QK)(e:TypeId)(q:QI)(x y:VV):Prop:=
 match x,y,q.z with
 |.int _ n,.int _ m,[z]=>n=m/\0<=n/\n*q.bt<=140737488355328/\n<=140737488355328/\(match k with|.slice _=>True|_=>False)/\q.zok=true /\
  ∀b,New s b->aJ P N all K E rest (put N env d (.msl b n.toNat)) (s.set b (.obj e (List.replicate n.toNat z)))
 |_,_,_=>False
def gY (op:BinOp)(T:TypeId)(cy:Bool)(d:Option Tmp)(rest:List Oper)(env:Env)(s:St)(x y:VV):Prop:=
  match x,y with
  |.int k a,.int k' b=>(k=k'\/D1 op=true)/\gC P N all K E d rest env s (fM op k a b)
  |.str a,.str b=>
    (match op with
     |.add=>a.length+b.length<=9223372036854775807/\aJ P N all K E rest (put N env d (.str (a++b))) s
     |.eql=>aJ P N all K E rest (put N env d (.bool (decide (a=b)))) s
     |.neq=>aJ P N all K E rest (put N env d (.bool !(decide (a=b)))) s
     |_=>False)
  |.bool a,.bool b=>(match (qi P T).k with|.bool=>True|_=>False) /\
    (match op with
     |.eql=>aJ P N all K E rest (put N env d (.bool (a == b))) s
     |.neq=>aJ P N all K E rest (put N env d (.bool !(a == b))) s
     |_=>False)
  |.ptr b i,.ptr b' j=>pok P T=true/\b=b'/\i=j /\
    (match op with
     |.eql=>aJ P N all K E rest (put N env d (.bool true)) s
     |.neq=>aJ P N all K E rest (put N env d (.bool false)) s
     |_=>False)
  |.agg xs,.agg ys=>
    (match op with
     |.eql=>vnl P N all K E d rest env s false (kx P T xs ys)
     |.neq=>vnl P N all K E d rest env s true (kx P T xs ys)
     |_=>False)
  |x,y=>cy=true /\
    (match op with
     |.eql=>vnl P N all K E d rest env s false (gy (qi P T).k x y)
     |.neq=>vnl P N all K E d rest env s true (gy (qi P T).k x y)
     |_=>False)
def vun (op:UnOp)(d:Option Tmp)(rest:List Oper)(env:Env)(s:St)(x:VV):Prop:=
 match op,x with
 |.not,.bool b=>aJ P N all K E rest (put N env d (.bool !b)) s
 |.neg,.int k n=>aJ P N all K E rest (put N env d (.int k (k.wrap (0 - n)))) s
 |_,_=>False
def zU (d:Option Tmp)(rest:List Oper)(env:Env)(s:St)(x:VV)(q:Option (Nat×Nat×Bool)):Prop:=
 match x,q with
 |.eptr cs,some (off,_,_)=>off<=cs.length/\aJ P N all K E rest (put N env d (.eptr (cs.drop off))) s
 |.ptr b o',some (off,_,_)=>aJ P N all K E rest (put N env d (.ptr b (o'+off))) s
 |_,_=>False
def FG (d:Option Tmp)(rest:List Oper)(env:Env)(s:St)(x:VV)(q:Option (Nat×Nat×Bool)):Prop:=
 match x,q with
 |.agg cs,some (off,sz,ag)=>gC P N all K E d rest env s (du cs off sz ag)
 |_,_=>False
def FH (d:Option Tmp)(rest:List Oper)(env:Env)(s:St)(x:VV)(i:Nat):Prop:=
 match x with
 |.tup xs=>gC P N all K E d rest env s xs[i]?
 |_=>False
def JQ (env:Env)(s:St)(x:VV):Prop:=match x with|.iface T y=>E (.iface T y) env s|_=>False
def JR (d:Option Tmp)(rest:List Oper)(env:Env)(s:St):Option (List VV)->Prop
 |some cs=>aJ P N all K E rest (put N env d (.agg cs)) s
 |none=>False
def EU (d:Option Tmp)(rest:List Oper)(env:Env)(s:St)(o:Own):Option (List (List VV))->Prop
 |some xs=>aJ P N all K E rest (put N env d (.lst xs o)) s
 |none=>False
def ph (d:Option Tmp)(rest:List Oper)(env:Env)(s:St)(T T':TypeId)(q':QK)(e:TypeId)(q:QI)(x y:VV):Prop:=
 match x,y with
 |.lst xs ox,.lst ys _=>T=T'/\fb (fun z s'=>aJ P N all K E rest (put N env d z) s') e q xs ys ox s
 |.mrw b n,.lst ys _=>T=T'/\iK (fun z s'=>aJ P N all K E rest (put N env d z) s') e q b n ys s
 |.raw (.slice none 0 0),.lst ys _=>T=T'/\iM (fun z s'=>aJ P N all K E rest (put N env d z) s') e q ys s
 |.lst xs ox,.str l=>q'.isStr=true/\fb (fun z s'=>aJ P N all K E rest (put N env d z) s') e q xs (bi l) ox s
 |_,_=>False
def uG (d:Option Tmp)(rest:List Oper)(env:Env)(s:St)(f:VV)(xs:List VV):Prop:=
 wu P N E d (aJ P N all K E rest) env s f xs
def nf (d:Option Tmp)(rest:List Oper)(env:Env)(s:St)(f:FuncId)(xs:List VV):Prop:=
 ∃(Q:SEnd->St->Prop),CH P f xs s Q /\
  (∀x s',Q (.ret x) s'->aJ P N all K E rest (put N env d x) s')/\(∀x s',Q (.panic x) s'->E x env s')
def vgd (g:VV)(want:Bool)(d:Option Tmp)(op:Op)(ty:TypeId)(p:String)(af:Array Edge)(rest:List Oper)(env:Env)(s:St):Prop:=
 match g with
 |.bool b=>if b=want then aJ P N all K E (⟨d,op,ty,p,af,none⟩::rest) env s else aJ P N all K E rest (put N env d (.tup [])) s
 |.tup _=>aJ P N all K E rest (put N env d (.tup [])) s
 |_=>False
variable {P N all K E}
variable {d : Option Tmp} {ty T T' : TypeId} {p : String} {af : Array Edge} {rest : List Oper} {env : Env} {s : St} {x y z c a b : Operand} {i j n : Nat}
theorem Mm:aJ P N all K E [] env s=K env s:=rfl
theorem Jj:aJ P N all K E (⟨d,.move x,ty,p,af,none⟩::rest) env s=aJ P N all K E rest (put N env d (rd env x)) s:=rfl
theorem BH:aJ P N all K E (⟨d,.assign x,ty,p,af,none⟩::rest) env s=aJ P N all K E rest (put N env d (rd env x)) s:=rfl
theorem Ef {op:Op}{w:Bool}:aJ P N all K E (⟨d,op,ty,p,af,some (j,w)⟩::rest) env s=vgd P N all K E (yv all env j) w d op ty p af rest env s:=by
 simp only[aJ,vgd,iI]
 cases yv all env j<;>rfl
theorem Ji:aJ P N all K E (⟨d,.pick c a b,ty,p,af,none⟩::rest) env s=uD P N all K E d rest env s (rd env c) (rd env a) (rd env b):=by
 simp only[aJ,bK,uD]
 cases rd env c<;>rfl
theorem Ej:aJ P N all K E (⟨d,.alloc T,ty,p,af,none⟩::rest) env s=((qi P T).zok=true/\∀b,New s b->aJ P N all K E rest (put N env d (.ptr b 0)) (s.set b (.obj T (qi P T).z))):=rfl
theorem Mq:aJ P N all K E (⟨d,.box T x,ty,p,af,none⟩::rest) env s=((rd env x).cells.all VV.one=true/\∀b,New s b->aJ P N all K E rest (put N env d (.ptr b 0)) (s.set b (.obj T (rd env x).cells))):=rfl
theorem Eh {parts:Array (Nat×Operand)}:aJ P N all K E (⟨d,.build T parts,ty,p,af,none⟩::rest) env s =
  (fok P T=true/\(qi P T).zok=true/\JR P N all K E d rest env s (iy P T (qi P T).z (parts.toList.map fun q=>(q.1,rd env q.2)))):=by
 simp only[aJ,bK]
 cases iy P T (qi P T).z (parts.toList.map fun q=>(q.1,rd env q.2))<;>rfl
theorem rC {parts:Array (Nat×Operand)}:aJ P N all K E (⟨d,.buildSlice T n parts,ty,p,af,none⟩::rest) env s =
  (parts.size=n/\(qi P (bj (qi P T))).zok=true/\n*(qi P (bj (qi P T))).sz<=16777216/\(match (qi P T).k with|.slice _=>True|_=>False) /\
   EU P N all K E d rest env s (lF n) (gu (qi P (bj (qi P T))).sz 0 (parts.toList.map fun q=>(q.1,rd env q.2)))):=by
 simp only[aJ,bK]
 cases gu (qi P (bj (qi P T))).sz 0 (parts.toList.map fun q=>(q.1,rd env q.2))<;>rfl
theorem Jk:aJ P N all K E (⟨d,.load T a,ty,p,af,none⟩::rest) env s=gC P N all K E d rest env s (gD (qi P T) (rd env a) s):=by
 simp only[aJ,bK]
 cases gD (qi P T) (rd env a) s<;>rfl
theorem Eb:aJ P N all K E (⟨d,.store T a x,ty,p,af,none⟩::rest) env s=mZ P N all K E d rest env (iF (qi P T) (rd env a) (rd env x) s):=by
 simp only[aJ,bK]
 cases iF (qi P T) (rd env a) (rd env x) s<;>rfl
theorem vJ:aJ P N all K E (⟨d,.nilCheck x,ty,p,af,none⟩::rest) env s=FF P N all K E d rest env s (rd env x):=rfl
theorem Ei {op:BinOp}:aJ P N all K E (⟨d,.binOp op T x y T',ty,p,af,none⟩::rest) env s=gY P N all K E op T y.isConst d rest env s (rd env x) (rd env y):=by
 simp only[aJ,bK,gY]
 have hn:∀(u v:VV) (b:Bool),fk (fun c=>aJ P N all K E rest (put N env d (.bool (if b then !c else c))) s) (gy (qi P T).k u v)=vnl P N all K E d rest env s b (gy (qi P T).k u v):=fun u v b=>by
  cases gy (qi P T).k u v<;>rfl
 have hm:∀(us vs:List VV) (b:Bool),fk (fun c=>aJ P N all K E rest (put N env d (.bool (if b then !c else c))) s) (kx P T us vs)=vnl P N all K E d rest env s b (kx P T us vs):=fun u v b=>by
  cases kx P T u v<;>rfl
 have hm1:=fun u v=>hm u v false
 have hm2:=fun u v=>hm u v true
 have hn1:=fun u v=>hn u v false
 have hn2:=fun u v=>hn u v true
 simp only[Bool.false_eq_true,if_false,if_true]at hn1 hn2 hm1 hm2
 cases rd env x<;>cases rd env y<;>first|rfl|(rename_i k a k' b;simp only;cases fM op k a b<;>rfl)|(simp only[hn1,hn2];cases op<;>rfl)|(simp only[hm1,hm2];cases op<;>rfl)
theorem zw:aJ P N all K E (⟨d,.convert T T' x,ty,p,af,none⟩::rest) env s=gC P N all K E d rest env s (iz P T T' (rd env x) s):=by
 simp only[aJ,bK]
 cases iz P T T' (rd env x) s<;>rfl
theorem Jh {op:UnOp}:aJ P N all K E (⟨d,.unOp op T x,ty,p,af,none⟩::rest) env s=vun P N all K E op d rest env s (rd env x):=rfl
theorem tM:aJ P N all K E (⟨d,.fieldAddr T x j,ty,p,af,none⟩::rest) env s=zU P N all K E d rest env s (rd env x) (qf P T j):=rfl
theorem Eg:aJ P N all K E (⟨d,.field T x j,ty,p,af,none⟩::rest) env s=FG P N all K E d rest env s (rd env x) (qf P T j):=by
 simp only[aJ,bK,FG]
 cases rd env x<;>first|rfl|skip
 rename_i cs
 rcases qf P T j with _|⟨off,sz,ag⟩
 ·rfl
 ·simp only
  cases du cs off sz ag<;>rfl
theorem tL:aJ P N all K E (⟨d,.indexAddr T x y,ty,p,af,none⟩::rest) env s=gC P N all K E d rest env s (sd (qi P T) (qi P (bj (qi P T))).sz (rd env x) (rd env y)):=by
 simp only[aJ,bK]
 cases sd (qi P T) (qi P (bj (qi P T))).sz (rd env x) (rd env y)<;>rfl
theorem Ee:aJ P N all K E (⟨d,.index T x y,ty,p,af,none⟩::rest) env s=gC P N all K E d rest env s (vat (qi P T) (rd env x) (rd env y)):=by
 simp only[aJ,bK]
 cases vat (qi P T) (rd env x) (rd env y)<;>rfl
theorem Ec {lo hi:Option Operand}:aJ P N all K E (⟨d,.slice T x lo hi none,ty,p,af,none⟩::rest) env s=gC P N all K E d rest env s (iG (qi P T) (qi P (bj (qi P T))) (rd env x) (lo.map (rd env)) (hi.map (rd env))):=by
 simp only[aJ,bK,true_and]
 cases iG (qi P T) (qi P (bj (qi P T))) (rd env x) (lo.map (rd env)) (hi.map (rd env))<;>rfl
theorem mG:aJ P N all K E (⟨d,.makeInterface T x,ty,p,af,none⟩::rest) env s=((match (qi P T).k with|.iface=>False|.other=>False|_=>True)/\aJ P N all K E rest (put N env d (.iface T (rd env x))) s):=rfl
theorem vK {f:FuncId}{caps:Array Operand}:aJ P N all K E (⟨d,.makeFunc (.func f) #[] caps,ty,p,af,none⟩::rest) env s=aJ P N all K E rest (put N env d (.fn f (caps.toList.map (rd env)))) s:=by
 simp only[aJ,bK,true_and]
theorem tK {l c:Operand}:aJ P N all K E (⟨d,.makeSlice T l c,ty,p,af,none⟩::rest) env s=vmk P N all K E d rest env s (qi P T).k (bj (qi P T)) (qi P (bj (qi P T))) (rd env l) (rd env c):=rfl
theorem p_mk {k1 k2:IntKind}{T1 T2:TypeId}{sz bt:Nat}{zo:Bool}{z:VV}{n m:Int}{qk:QK}:vmk P N all K E d rest env s (.slice T1) T2 ⟨qk,sz,bt,zo,[z]⟩ (.int k1 n) (.int k2 m)=(n=m/\0<=n/\n*bt<=140737488355328/\n<=140737488355328/\True/\zo=true /\
  ∀b,New s b->aJ P N all K E rest (put N env d (.msl b n.toNat)) (s.set b (.obj T2 (List.replicate n.toNat z)))):=rfl
theorem zt:aJ P N all K E (⟨d,.makeMap T none,ty,p,af,none⟩::rest) env s=(∀b,New s b->aJ P N all K E rest (put N env d (.mp b)) (s.set b (.map []))):=rfl
theorem BG {ok:Bool}:aJ P N all K E (⟨d,.lookup T x y ok,ty,p,af,none⟩::rest) env s=gC P N all K E d rest env s (fB (qi P T) (qi P (bj (qi P T))) (qi P (ke (qi P T))) (rd env x) (rd env y) ok s):=by
 simp only[aJ,bK]
 cases fB (qi P T) (qi P (bj (qi P T))) (qi P (ke (qi P T))) (rd env x) (rd env y) ok s<;>rfl
theorem tJ:aJ P N all K E (⟨d,.mapUpdate T x y z,ty,p,af,none⟩::rest) env s=mZ P N all K E d rest env (gX (qi P T) (qi P (ke (qi P T))) (rd env x) (rd env y) (rd env z) s):=by
 simp only[aJ,bK]
 cases gX (qi P T) (qi P (ke (qi P T))) (rd env x) (rd env y) (rd env z) s<;>rfl
theorem zu:aJ P N all K E (⟨d,.extract x i,ty,p,af,none⟩::rest) env s=FH P N all K E d rest env s (rd env x) i:=by
 simp only[aJ,bK,FH]
 cases rd env x<;>first|rfl|skip
 rename_i xs
 simp only
 cases xs[i]?<;>rfl
theorem Ed:aJ P N all K E (⟨d,.panic x,ty,p,af,none⟩::rest) env s=JQ E env s (rd env x):=rfl
theorem Jl {args:Array Operand}{ts:Array TypeId}:aJ P N all K E (⟨d,.call ⟨.value x,args,ts⟩,ty,p,af,none⟩::rest) env s=uG P N all K E d rest env s (rd env x) (args.toList.map (rd env)):=rfl
theorem Mp:aJ P N all K E (⟨d,.call ⟨.builtin .len,#[x],#[T]⟩,ty,p,af,none⟩::rest) env s=gC P N all K E d rest env s (jT (qi P T) (rd env x) s):=by
 simp only[aJ,bK]
 cases jT (qi P T) (rd env x) s<;>rfl
theorem Mn {ts:Array TypeId}:aJ P N all K E (⟨d,.call ⟨.builtin .min,#[x,y],ts⟩,ty,p,af,none⟩::rest) env s=gC P N all K E d rest env s (eC false (rd env x) (rd env y)):=by
 simp only[aJ,bK]
 cases eC false (rd env x) (rd env y)<;>rfl
theorem Mo {ts:Array TypeId}:aJ P N all K E (⟨d,.call ⟨.builtin .max,#[x,y],ts⟩,ty,p,af,none⟩::rest) env s=gC P N all K E d rest env s (eC true (rd env x) (rd env y)):=by
 simp only[aJ,bK]
 cases eC true (rd env x) (rd env y)<;>rfl
theorem BI:aJ P N all K E (⟨d,.call ⟨.builtin .append,#[x,y],#[T,T']⟩,ty,p,af,none⟩::rest) env s =
  ((match (qi P T).k with|.slice _=>True|_=>False)/\ph P N all K E d rest env s T T' (qi P T').k (bj (qi P T)) (qi P (bj (qi P T))) (rd env x) (rd env y)):=by
 simp only[aJ,bK,ph]
 cases rd env x<;>cases rd env y<;>rfl
variable {xs ys cs : List VV} {f : FuncId} {v w : VV} {o : Own} {t u : Bool} {k k' : IntKind} {q r : Int} {sa sb : List UInt8} {l l' : List (List VV)} {Q : QI} {op : Op} {n' : Nat} {o' : Own} {cy : Bool} {v1 w1 : Value}
theorem vg:put N env none v=env:=rfl
theorem vf:put N env (some i) v=if i<N then upd env i v else env:=rfl
theorem KM:upd env i v j=if j=i then v else env j:=rfl
theorem KP:rd env (.tmp i)=env i:=rfl
theorem DQ {v:Value}:rd env (.const v)=cv v:=rfl
theorem IJ:rd env (.func f)=.fn f []:=rfl
theorem IQ:cv (.int k q)=.int k q:=rfl
theorem DR:cv (.bool t)=.bool t:=rfl
theorem IO {a:Array UInt8}:cv (.string ⟨a⟩)=.str a.toList:=rfl
theorem IP:cv (.slice none 0 0)=.lst [] .full:=rfl
theorem H8:gC P N all K E d rest env s (some v)=aJ P N all K E rest (put N env d v) s:=rfl
theorem DA:mZ P N all K E d rest env (some s)=aJ P N all K E rest (put N env d (.tup [])) s:=rfl
theorem Im:uD P N all K E d rest env s (.bool t) v w=aJ P N all K E rest (put N env d (if t then v else w)) s:=rfl
theorem Iw:FF P N all K E d rest env s (.ptr i j)=aJ P N all K E rest (put N env d (.ptr i j)) s:=by simp[FF]
theorem IT {op:BinOp}:gY P N all K E op T cy d rest env s (.int k q) (.int k r)=gC P N all K E d rest env s (fM op k q r):=by simp[gY]
theorem Ij:gY P N all K E .add T cy d rest env s (.str sa) (.str sb)=(sa.length+sb.length<=9223372036854775807/\aJ P N all K E rest (put N env d (.str (sa++sb))) s):=rfl
theorem Ih:gY P N all K E .eql T cy d rest env s (.str sa) (.str sb)=aJ P N all K E rest (put N env d (.bool (decide (sa=sb)))) s:=rfl
theorem If:gY P N all K E .neq T cy d rest env s (.str sa) (.str sb)=aJ P N all K E rest (put N env d (.bool !(decide (sa=sb)))) s:=rfl
theorem IU:gY P N all K E .eql T cy d rest env s (.bool t) (.bool u)=((match (qi P T).k with|.bool=>True|_=>False)/\aJ P N all K E rest (put N env d (.bool (t == u))) s):=rfl
theorem IS:gY P N all K E .neq T cy d rest env s (.bool t) (.bool u)=((match (qi P T).k with|.bool=>True|_=>False)/\aJ P N all K E rest (put N env d (.bool !(t == u))) s):=rfl
theorem DT {xs ys:List VV}:gY P N all K E .eql T cy d rest env s (.agg xs) (.agg ys)=vnl P N all K E d rest env s false (kx P T xs ys):=rfl
theorem DS {xs ys:List VV}:gY P N all K E .neq T cy d rest env s (.agg xs) (.agg ys)=vnl P N all K E d rest env s true (kx P T xs ys):=rfl
theorem vn:gY P N all K E .eql T cy d rest env s (.iface T' v) (.raw w1)=(cy=true/\vnl P N all K E d rest env s false (gy (qi P T).k (.iface T' v) (.raw w1))):=rfl
theorem vm:gY P N all K E .neq T cy d rest env s (.iface T' v) (.raw w1)=(cy=true/\vnl P N all K E d rest env s true (gy (qi P T).k (.iface T' v) (.raw w1))):=rfl
theorem vk:gY P N all K E .eql T cy d rest env s (.raw v1) (.raw w1)=(cy=true/\vnl P N all K E d rest env s false (gy (qi P T).k (.raw v1) (.raw w1))):=rfl
theorem vj:gY P N all K E .neq T cy d rest env s (.raw v1) (.raw w1)=(cy=true/\vnl P N all K E d rest env s true (gy (qi P T).k (.raw v1) (.raw w1))):=rfl
theorem vi:gY P N all K E .eql T cy d rest env s (.ptr i j) (.raw w1)=(cy=true/\vnl P N all K E d rest env s false (gy (qi P T).k (.ptr i j) (.raw w1))):=rfl
theorem vh:gY P N all K E .neq T cy d rest env s (.ptr i j) (.raw w1)=(cy=true/\vnl P N all K E d rest env s true (gy (qi P T).k (.ptr i j) (.raw w1))):=rfl
theorem Iv:gy .iface (.iface T v) (.raw .nilIface)=some false:=rfl
theorem DH:gy .iface (.raw .nilIface) (.raw .nilIface)=some true:=rfl
theorem Iu:gy .ptr (.ptr i j) (.raw (.pointer none))=some false:=rfl
theorem Ia {b:Bool}:vnl P N all K E d rest env s false (some b)=aJ P N all K E rest (put N env d (.bool b)) s:=rfl
theorem H9 {b:Bool}:vnl P N all K E d rest env s true (some b)=aJ P N all K E rest (put N env d (.bool !b)) s:=rfl
theorem Lx {v:Value}:(Operand.const v).isConst=true:=rfl
theorem rB {b:Bool}:aJ P N all K E (⟨d,.typeAssert x T' T b,ty,p,af,none⟩::rest) env s=(b=true/\(match (qi P T).k with|.iface=>False|.other=>False|_=>True)/\vta P N all K E d rest env s T (rd env x)):=by
 simp only[aJ,bK,vta]
 cases rd env x<;>rfl
theorem p_ta:vta P N all K E d rest env s T (.iface T' v)=(T'=T/\aJ P N all K E rest (put N env d (.tup [v,.bool true])) s):=rfl
theorem Li:vun P N all K E .not d rest env s (.bool t)=aJ P N all K E rest (put N env d (.bool !t)) s:=rfl
theorem Lk:vun P N all K E .neg d rest env s (.int k q)=aJ P N all K E rest (put N env d (.int k (k.wrap (0 - q)))) s:=rfl
theorem LE:zU P N all K E d rest env s (.eptr cs) (some (i,j,t))=(i<=cs.length/\aJ P N all K E rest (put N env d (.eptr (cs.drop i))) s):=rfl
theorem LD:zU P N all K E d rest env s (.ptr n j) (some (i,n',t))=aJ P N all K E rest (put N env d (.ptr n (j+i))) s:=rfl
theorem p_f:FG P N all K E d rest env s (.agg cs) (some (i,j,t))=gC P N all K E d rest env s (du cs i j t):=rfl
theorem LF:FH P N all K E d rest env s (.tup xs) i=gC P N all K E d rest env s xs[i]?:=rfl
theorem K3:JQ E env s (.iface T v)=E (.iface T v) env s:=rfl
theorem L9:JR P N all K E d rest env s (some cs)=aJ P N all K E rest (put N env d (.agg cs)) s:=rfl
theorem K0:EU P N all K E d rest env s o (some l)=aJ P N all K E rest (put N env d (.lst l o)) s:=rfl
theorem Lb:lF 0=.no:=rfl
theorem La:lF (n+1)=.full:=rfl
theorem IR:uG P N all K E d rest env s (.fn f cs) xs=nf P N all K E d rest env s f (xs++cs):=by
 unfold uG wu nf
 apply propext
 constructor
 ·rintro⟨g,caps,Q,h,rest⟩
  injection h with h1 h2
  subst h1;subst h2
  exact⟨Q,rest⟩
 ·rintro⟨Q,rest⟩
  exact⟨f,cs,Q,rfl,rest⟩
theorem p_gt:vgd P N all K E (.bool true) true d op ty p af rest env s=aJ P N all K E (⟨d,op,ty,p,af,none⟩::rest) env s:=by simp[vgd]
theorem p_gf:vgd P N all K E (.bool false) false d op ty p af rest env s=aJ P N all K E (⟨d,op,ty,p,af,none⟩::rest) env s:=by simp[vgd]
theorem Lz:vgd P N all K E (.bool true) false d op ty p af rest env s=aJ P N all K E rest (put N env d (.tup [])) s:=by simp[vgd]
theorem LB:vgd P N all K E (.bool false) true d op ty p af rest env s=aJ P N all K E rest (put N env d (.tup [])) s:=by simp[vgd]
theorem p_gu:vgd P N all K E (.tup xs) t d op ty p af rest env s=aJ P N all K E rest (put N env d (.tup [])) s:=by simp[vgd]
def rf:List Oper->Nat->Option Tmp
 |[],_=>none
 |o::_,0=>o.dst
 |_::l,n+1=>rf l n
theorem xg:∀(l:List Oper) (j:Nat),rf l j=(l[j]?).bind (·.dst)
 |[],j=>by simp[rf]
 |o::l,0=>by simp[rf]
 |o::l,j+1=>by simp[rf,xg l j]
def yvd (env:Env):Option Tmp->VV
 |some t=>env t
 |none=>.tup []
theorem p_yv:yv all env j=yvd env (rf all j):=by
 rw[xg]
 unfold yv yvd
 cases (all[j]?).bind (·.dst)<;>rfl
theorem KI:yvd env (some i)=env i:=rfl
theorem It {g:Option (Nat×Bool)}{l:List Oper}:rf (⟨d,op,ty,p,af,g⟩::l) 0=d:=rfl
theorem Is {o:Oper}{l:List Oper}:rf (o::l) (n+1)=rf l n:=rfl
theorem K2:fM .quo k q r=if r≠0 then some (.int k (k.wrap (q.tdiv r)))else none:=rfl
theorem K1:fM .rem k q r=if r≠0 then some (.int k (q.tmod r))else none:=rfl
theorem L8:fM .and k q r=some (.int k (uc k q r)):=rfl
theorem p_or:fM .or k q r=some (.int k (bOr k q r)):=rfl
theorem KJ:fM .xor k q r=some (.int k (Ep k q r)):=rfl
theorem Bg:fM .andNot k q r=some (.int k (mT k q r)):=rfl
theorem KY:fM .shl k q r=if 0<=r then some (.int k (k.wrap (q*2 ^ (min r.toNat k.bits))))else none:=rfl
theorem KX:fM .shr k q r=if 0<=r then some (.int k (q.fdiv (2 ^ (min r.toNat k.bits))))else none:=rfl
theorem Ma:fM .add k q r=some (.int k (k.wrap (q+r))):=rfl
theorem KQ:fM .sub k q r=some (.int k (k.wrap (q - r))):=rfl
theorem Ll:fM .mul k q r=some (.int k (k.wrap (q*r))):=rfl
theorem LG:fM .eql k q r=some (.bool (decide (q=r))):=rfl
theorem Lj:fM .neq k q r=some (.bool !(decide (q=r))):=rfl
theorem Lm:fM .lss k q r=some (.bool (decide (q<r))):=rfl
theorem Lr:fM .leq k q r=some (.bool (decide (q<=r))):=rfl
theorem Ly:fM .gtr k q r=some (.bool (decide (r<q))):=rfl
theorem LC:fM .geq k q r=some (.bool (decide (r<=q))):=rfl
theorem Lw:gD Q (.eptr cs) s=du cs 0 Q.sz Q.k.agg:=rfl
def na (Q:QI)(off:Nat):Cell->Option VV
 |.obj _ xs=>du xs off Q.sz Q.k.agg
 |.pk _ xs _=>du xs off Q.sz Q.k.agg
 |.row _ _ xs=>du xs off Q.sz Q.k.agg
 |_=>none
theorem Lv:gD Q (.ptr i j) s=na Q j (s i):=by
 unfold gD na
 simp only
 cases s i<;>rfl
theorem Lu:na Q j (.obj T xs)=du xs j Q.sz Q.k.agg:=rfl
theorem Ls {sz:Nat}:na Q j (.row T sz xs)=du xs j Q.sz Q.k.agg:=rfl
theorem Lt {rs:List (Nat×TypeId×Nat)}:na Q j (.pk T xs rs)=du xs j Q.sz Q.k.agg:=rfl
def kw (Q:QI)(b off:Nat)(x:VV)(s:St):Cell->Option St
 |.obj T xs=>if x.cells.length=Q.sz/\0<Q.sz/\off+Q.sz<=xs.length/\x.cells.all VV.one=true then some (s.set b (.obj T (splice xs off x.cells)))else none
 |.pk T xs rs=>if x.cells.length=Q.sz/\0<Q.sz/\off+Q.sz<=xs.length/\x.cells.all VV.one=true then some (s.set b (.pk T (splice xs off x.cells) (kO off Q.sz rs)))else none
 |.row T sz xs=>if x.cells.length=Q.sz/\0<Q.sz/\off+Q.sz<=xs.length/\x.cells.all VV.one=true then some (s.set b (.row T sz (splice xs off x.cells)))else none
 |_=>none
theorem p_st:iF Q (.ptr i j) v s=kw Q i j v s (s i):=by
 unfold iF kw
 simp only
 cases s i<;>rfl
theorem KU:kw Q i j v s (.obj T xs)=if v.cells.length=Q.sz/\0<Q.sz/\j+Q.sz<=xs.length/\v.cells.all VV.one=true then some (s.set i (.obj T (splice xs j v.cells)))else none:=rfl
theorem KS {sz:Nat}:kw Q i j v s (.row T sz xs)=if v.cells.length=Q.sz/\0<Q.sz/\j+Q.sz<=xs.length/\v.cells.all VV.one=true then some (s.set i (.row T sz (splice xs j v.cells)))else none:=rfl
theorem KT {rs:List (Nat×TypeId×Nat)}:kw Q i j v s (.pk T xs rs)=if v.cells.length=Q.sz/\0<Q.sz/\j+Q.sz<=xs.length/\v.cells.all VV.one=true then some (s.set i (.pk T (splice xs j v.cells) (kO j Q.sz rs)))else none:=rfl
theorem DK:kO i n []=[]:=rfl
theorem DJ {r:Nat×TypeId×Nat}{rs:List (Nat×TypeId×Nat)}:kO i n (r::rs)=if r.1<i\/i+n<=r.1 then r::kO i n rs else kO i n rs:=by simp only[kO,List.filter_cons,Bool.or_eq_true,decide_eq_true_eq]
theorem KZ {c:Cell}:St.set s i c j=if j=i then c else s j:=rfl
theorem Io:du cs i j t=if i+j<=cs.length then(if t then some (.agg ((cs.drop i).take j))else if j=1 then cs[i]? else none)else none:=rfl
theorem Ii:QK.struct.agg=true:=rfl
theorem I0:(QK.array i T).agg=true:=rfl
theorem IW:QK.bool.agg=false:=rfl
theorem II:(QK.int k).agg=false:=rfl
theorem Id:QK.str.agg=false:=rfl
theorem IE:(QK.slice T).agg=false:=rfl
theorem Ix:(QK.map T T').agg=false:=rfl
theorem Ip:QK.ptr.agg=false:=rfl
theorem IK:QK.iface.agg=false:=rfl
theorem Ic:QK.func.agg=false:=rfl
theorem LW:(VV.agg cs).cells=cs:=rfl
theorem LR:(VV.int k q).cells=[.int k q]:=rfl
theorem LV:(VV.bool t).cells=[.bool t]:=rfl
theorem LH:(VV.str sa).cells=[.str sa]:=rfl
theorem LQ:(VV.lst l o).cells=[.lst l o]:=rfl
theorem LJ:(VV.ptr i j).cells=[.ptr i j]:=rfl
theorem LU:(VV.eptr cs).cells=[.eptr cs]:=rfl
theorem LT:(VV.fn f cs).cells=[.fn f cs]:=rfl
theorem LO:(VV.mp i).cells=[.mp i]:=rfl
theorem LI {v:Value}:(VV.raw v).cells=[.raw v]:=rfl
theorem LS:(VV.iface T v).cells=[.iface T v]:=rfl
theorem Lc:(VV.int k q).one=true:=rfl
theorem Lh:(VV.bool t).one=true:=rfl
theorem K4:(VV.str sa).one=true:=rfl
theorem K9:(VV.lst l o).one=true:=rfl
theorem K5:(VV.ptr i j).one=true:=rfl
theorem Lg:(VV.eptr cs).one=true:=rfl
theorem Lf:(VV.fn f cs).one=true:=rfl
theorem K8:(VV.mp i).one=true:=rfl
theorem Ld:(VV.iface T v).one=true:=rfl
theorem Ib {sz:Nat}{bt:Nat}{zo:Bool}{zz:List VV}:sd ⟨.slice T,j,bt,zo,zz⟩ sz (.lst l o) (.int k q)=if 0<=q then(l[q.toNat]?).bind fun cs=>if cs.length=sz/\0<sz then some (.eptr cs)else none else none:=rfl
theorem DC {sz bt m:Nat}{zo:Bool}{zz:List VV}:sd ⟨.slice T,j,bt,zo,zz⟩ sz (.msl i m) (.int k q)=if 0<=q/\q.toNat<m/\sz=1 then some (.ptr i q.toNat)else none:=rfl
theorem DB {sz bt m:Nat}{zo:Bool}{zz:List VV}:sd ⟨.slice T,j,bt,zo,zz⟩ sz (.mrw i m) (.int k q)=if 0<=q/\q.toNat<m/\0<sz then some (.ptr i (q.toNat*sz))else none:=rfl
theorem Iz {sz bt m:Nat}{zo:Bool}{zz:List VV}:jT ⟨.slice T,sz,bt,zo,zz⟩ (.mrw i m) s=some (.int .i64 m):=rfl
theorem IA {sz bt:Nat}{zo:Bool}{zz:List VV}:jT ⟨.slice T,sz,bt,zo,zz⟩ (.raw (.slice none 0 0)) s=some (.int .i64 0):=rfl
theorem K7 {m:Nat}:(VV.mrw i m).one=true:=rfl
theorem LM {m:Nat}:(VV.mrw i m).cells=[.mrw i m]:=rfl
theorem KW {sz bt m:Nat}{zo:Bool}{zz:List VV}{qe:QI}{lo hi:Option VV}:iG ⟨.slice T,sz,bt,zo,zz⟩ qe (.mrw i m) lo hi =
  match cZ lo 0,cZ hi m with
  |some a,some b=>if a=0/\b<=m/\0<qe.sz then some (.mrw i b)else none
  |_,_=>none:=rfl
theorem IB {sz bt m:Nat}{zo:Bool}{zz:List VV}:jT ⟨.slice T,sz,bt,zo,zz⟩ (.msl i m) s=some (.int .i64 m):=rfl
theorem K6 {m:Nat}:(VV.msl i m).one=true:=rfl
theorem LK {m:Nat}:(VV.msl i m).cells=[.msl i m]:=rfl
theorem KL {sz:Nat}{bt:Nat}{zo:Bool}{zz:List VV}:vat ⟨.str,sz,bt,zo,zz⟩ (.str sa) (.int k q)=if 0<=q then(sa[q.toNat]?).map fun c=>.int .u8 (c.toNat:Int)else none:=rfl
theorem Iy {sz:Nat}{bt:Nat}{zo:Bool}{zz:List VV}:jT ⟨.str,sz,bt,zo,zz⟩ (.str sa) s=some (.int .i64 sa.length):=rfl
theorem IC {sz:Nat}{bt:Nat}{zo:Bool}{zz:List VV}:jT ⟨.slice T,sz,bt,zo,zz⟩ (.lst l o) s=some (.int .i64 l.length):=rfl
theorem Ig {sz:Nat}{bt:Nat}{zo:Bool}{zz:List VV}{qe:QI}{lo hi:Option VV}:iG ⟨.slice T,sz,bt,zo,zz⟩ qe (.lst l o) lo hi =
  match cZ lo 0,cZ hi l.length with
  |some a,some b=>if a<=b/\b<=l.length/\0<qe.sz/\(∀x,x∈l->x.length=qe.sz)then some (.lst ((l.take b).drop a) .no)else none
  |_,_=>none:=rfl
theorem Ie {sz:Nat}{bt:Nat}{zo:Bool}{zz:List VV}{qe:QI}{lo hi:Option VV}:iG ⟨.str,sz,bt,zo,zz⟩ qe (.str sa) lo hi =
  match cZ lo 0,cZ hi sa.length with
  |some a,some b=>if a<=b/\b<=sa.length then some (.str ((sa.take b).drop a))else none
  |_,_=>none:=rfl
theorem LY:cZ none n=some n:=rfl
theorem LX:cZ (some (.int k q)) n=if 0<=q then some q.toNat else none:=rfl
theorem p_et {sz:Nat}{bt:Nat}{zo:Bool}{zz:List VV}:bj ⟨.slice T,sz,bt,zo,zz⟩=T:=rfl
theorem p_em {sz:Nat}{bt:Nat}{zo:Bool}{zz:List VV}:bj ⟨.map T T',sz,bt,zo,zz⟩=T':=rfl
theorem p_es {sz:Nat}{bt:Nat}{zo:Bool}{zz:List VV}:bj ⟨.str,sz,bt,zo,zz⟩=0:=rfl
theorem p_km {sz:Nat}{bt:Nat}{zo:Bool}{zz:List VV}:ke ⟨.map T T',sz,bt,zo,zz⟩=T:=rfl
theorem L7 {q':QK}{e:TypeId}:ph P N all K E d rest env s T T q' e Q (.lst l o) (.lst l' o')=fb (fun z s'=>aJ P N all K E rest (put N env d z) s') e Q l l' o s:=by
 simp[ph]
theorem DE {b i b' j:Nat}:gY P N all K E .eql T cy d rest env s (.ptr b i) (.ptr b' j)=(pok P T=true/\b=b'/\i=j/\aJ P N all K E rest (put N env d (.bool true)) s):=rfl
theorem DD {b i b' j:Nat}:gY P N all K E .neq T cy d rest env s (.ptr b i) (.ptr b' j)=(pok P T=true/\b=b'/\i=j/\aJ P N all K E rest (put N env d (.bool false)) s):=rfl
theorem DP:iz P T T' (.int k q) s=match (qi P T).k,(qi P T').k with|.int _,.int k'=>some (.int k' (k'.wrap q))|_,_=>none:=rfl
theorem DO {b i:Nat}:iz P T T' (.ptr b i) s=match s b with|.obj U xs=>if BM P T T' U xs.length i=true then some (.ptr b i)else none|_=>none:=rfl
theorem iN:∀l:List UInt8,fC (bi l)=some l
 |[]=>rfl
 |c::l=>by
  have h:(c.toNat:Int)<256:=by have:=c.toNat_lt;omega
  have e:UInt8.ofNat (c.toNat:Int).toNat=c:=by simp
  have:=iN l
  simp only[bi,List.map_cons,fC]at this ⊢
  rw[if_pos ⟨by omega,h⟩,this,e];rfl
theorem DN:iz P T T' (.lst (bi sa) o) s=match (qi P T).k,(qi P T').k with|.slice e,.str=>if I8 (qi P e).k=true then some (.str sa)else none|_,_=>none:=by
 simp only[iz,iN];rfl
theorem IH:I8 (.int .u8)=true:=rfl
theorem IY {q':QK}{e:TypeId}{b n:Nat}:ph P N all K E d rest env s T T q' e Q (.mrw b n) (.lst l' o')=iK (fun z s'=>aJ P N all K E rest (put N env d z) s') e Q b n l' s:=by
 simp[ph]
theorem IZ {q':QK}{e:TypeId}:ph P N all K E d rest env s T T q' e Q (.raw (.slice none 0 0)) (.lst l' o')=iM (fun z s'=>aJ P N all K E rest (put N env d z) s') e Q l' s:=by
 simp[ph]
theorem IX {e:TypeId}:ph P N all K E d rest env s T T' .str e Q (.lst l o) (.str sa)=fb (fun z s'=>aJ P N all K E rest (put N env d z) s') e Q l (bi sa) o s:=by
 simp[ph,QK.isStr]
theorem IN:rz (v::xs) 0=v:=rfl
theorem IL:rz (v::xs) (n+1)=rz xs n:=by simp[rz]
theorem IM:rz [] n=.tup []:=rfl
theorem KV {α:Type}{a b:List α}:splice a n b=a.take n++b++a.drop (n+b.length):=rfl
theorem Dy {r:ResultVar}:jS P env s [r]=sc P env s r:=rfl
theorem Dz:jS P env s []=some (.tup []):=rfl
theorem Dx {r r':ResultVar}{rs:List ResultVar}:jS P env s (r::r'::rs)=(iH P env s (r::r'::rs)).map .tup:=rfl
theorem Ir:sc P env s (.tmp i)=some (env i):=rfl
theorem Iq:sc P env s (.cell i T)=gD (qi P T) (env i) s:=rfl
theorem DG:iH P env s []=some []:=rfl
theorem DF {r:ResultVar}{rs:List ResultVar}:iH P env s (r::rs)=match sc P env s r,iH P env s rs with|some x,some xs=>some (x::xs)|_,_=>none:=rfl
theorem DM:iy P T cs []=some cs:=rfl
theorem DL {rest:List (Nat×VV)}:iy P T cs ((j,v)::rest)=match qf P T j with
  |some (off,sz,_)=>if v.cells.length=sz/\off+sz<=cs.length/\v.cells.all VV.one=true then iy P T (splice cs off v.cells) rest else none
  |none=>none:=rfl
theorem Il:gu n i []=some []:=rfl
theorem Ik {rest:List (Nat×VV)}:gu n i ((j,v)::rest)=if j=i/\v.cells.length=n/\v.cells.all VV.one=true then(gu n (i+1) rest).map (v.cells::·)else none:=rfl
theorem Bf {x y:Code}{D:List Deferred}{kk:List Itm}{QQ:Pst}:nc P N D (.bool true) x y kk QQ env s=Kp P N D (.code x::kk) QQ .norm env s:=nb
theorem Be {x y:Code}{D:List Deferred}{kk:List Itm}{QQ:Pst}:nc P N D (.bool false) x y kk QQ env s=Kp P N D (.code y::kk) QQ .norm env s:=lX
theorem IF {a b:VV}:(if true=true then a else b)=a:=rfl
theorem IG {a b:VV}:(if false=true then a else b)=b:=rfl
def SRet (P:Program)(f:FuncId)(xs:List VV)(s:St)(y:VV)(s':St):Prop:=SCalls P f xs s fun e t=>e=.ret y/\t=s'
theorem ak {s':St}(hc:au P f)(h:SRet P f xs s v s')(hr:aJ P N all K E rest (put N env d v) s'):nf P N all K E d rest env s f xs:=
 ⟨_,.inl ⟨hc,h⟩,fun x t q=>by obtain⟨e,e'⟩:=q;injection e with e;subst e;subst e';exact hr,fun x t q=>by cases q.1⟩
theorem tX {s':St}(h:EA P f xs s fun e t=>e=.ret v/\t=s')(hr:aJ P N all K E rest (put N env d v) s'):nf P N all K E d rest env s f xs:=
 ⟨_,.inr h,fun x t q=>by obtain⟨e,e'⟩:=q;injection e with e;subst e;subst e';exact hr,(fun x t q=>by cases q.1)⟩
theorem bS {rs:List ResultVar}{s':St}(h:jS P env s rs=some v)(hf:Fg s s'):Qf P rs (fun e t=>e=.ret v/\t=s') .ret env s:=
 ⟨v,h,v,s',Wk.refl v,hf,rfl,rfl⟩
end
def St.own (s:St)(o:Own)(T:TypeId)(sz n:Nat):St:=
 match o with
 |.at_ b=>s.set b (.vec T sz n)
 |_=>s
def OwnOk (s:St)(o:Own)(n:Nat):Prop:=
 match o with
 |.no=>False
 |.full=>n=0
 |.at_ b=>s b=.free
theorem Fg.own {s:St}{o:Own}{T:TypeId}{sz n m:Nat}(h:OwnOk s o m):Fg (s.own o T sz n) s:=by
 cases o with
 |no=>exact Fg.refl s
 |full=>exact Fg.refl s
 |at_ b=>exact v_ _ h
attribute [go_sem ↓] Mm Jj BH Ef Ji Ej Mq Eh rC Jk Eb vJ Ei Jh tM Eg tL Ee Ec mG vK zt BG tJ zu Ed Jl Mp Mn Mo BI
attribute [go_sem] vg vf KM KP DQ IJ IQ DR IO IP H8 DA Im Iw IT Ij Ih If IU IS Li Lk K2 K1 L8 p_or KJ Bg KY KX LE LD p_f LF K3 L9 K0 IR p_gt p_gf Lz LB p_gu p_yv Ma KQ Ll LG Lj Lm Lr Ly LC Lw Lv Lu p_st KU KT Lt DK DJ KZ Io Ii I0 IW II Id IE Ix Ip IK Ic LW LR LV LH LQ LJ LU LT LO LI LS Lc Lh K4 K9 K5 Lg Lf K8 Ld Ib KL Iy IC Ig Ie LY LX p_et p_em p_es p_km L7 IX Lb La DE DD DP DO DN IH IN IL IM KV Dy Dz Dx Ir Iq DG DF DM DL Il Ik Bf Be IF IG
attribute [go_sem ↓] rB zw tK
attribute [go_sem] p_mk DC IB K6 LK Int.toNat_natCast Ls KS DB Iz IA K7 LM KW IY IZ
attribute [go_sem] vn vm vk vj vi vh Iv DH Iu Ia H9 Lx p_ta
attribute [go_sem] KI It Is DT DS kx eqF eq1 Option.bind_some Option.bind_none Option.map_some Option.map_none
theorem eo {n:Int}(h1:-9223372036854775808<=n)(h2:n<=9223372036854775807):IntKind.i64.wrap n=n:=by
 simp only[IntKind.wrap,IntKind.bits,IntKind.signed]
 simp
 omega
attribute [go_sem] eo Int.cast_ofNat_Int List.size_toArray
attribute [go_sem] decide_true decide_false Bool.not_true Bool.not_false and_true true_and Bool.false_eq_true List.length_cons List.length_nil List.getElem?_cons_zero List.getElem?_cons_succ Option.bind_some Option.map_some Option.map_none Option.bind_none List.map_cons List.map_nil List.all_cons List.all_nil Bool.and_true Bool.true_and Bool.and_false Bool.false_and List.take_succ_cons List.take_zero List.drop_succ_cons List.drop_zero List.cons_append List.nil_append List.append_nil Int.toNat_natCast List.drop_nil List.take_nil Bool.and_self Nat.zero_add Nat.add_zero Int.zero_add Int.add_zero
theorem Cn (x:Int)(j:Nat)(hj:j<=62):uc .i64 x (2 ^ j - 1)=x % 2 ^ j:=by
 have hp:(2:Int) ^ j=((2 ^ j:Nat):Int):=by simp
 have hle:2 ^ j<=2 ^ 62:=Nat.pow_le_pow_right (by omega) hj
 have hpos:0<2 ^ j:=Nat.pow_pos (by omega)
 have h1:(BitVec.ofInt IntKind.i64.bits x &&& BitVec.ofInt IntKind.i64.bits (2 ^ j - 1)).toNat=(x % 2 ^ j).toNat:=by
  rw[BitVec.toNat_and,BitVec.toNat_ofInt,BitVec.toNat_ofInt]
  have e2:((2:Int) ^ j - 1) % ((2 ^ IntKind.i64.bits:Nat):Int)=((2 ^ j - 1:Nat):Int):=by
   rw[show ((2:Int) ^ j - 1)=((2 ^ j - 1:Nat):Int) by omega]
   exact Int.emod_eq_of_lt (by omega) (by
    have:(2 ^ 62:Nat)<2 ^ IntKind.i64.bits:=by decide
    omega)
  rw[e2]
  show _ &&& (2 ^ j - 1)=_
  rw[Nat.and_two_pow_sub_one_eq_mod]
  have hd:((2 ^ IntKind.i64.bits:Nat):Int)=2 ^ j*((2 ^ (64 - j):Nat):Int):=by
   rw[hp,<- Int.natCast_mul,<- Nat.pow_add,show j+(64 - j)=64 by omega];rfl
  have h0:0<=x % ((2 ^ IntKind.i64.bits:Nat):Int):=Int.emod_nonneg _ (by decide)
  have:(((x % ((2 ^ IntKind.i64.bits:Nat):Int)).toNat % 2 ^ j:Nat):Int)=((x % 2 ^ j).toNat:Int):=by
   rw[Int.natCast_emod,Int.toNat_of_nonneg h0,Int.toNat_of_nonneg (Int.emod_nonneg _ (by omega)),<- hp,hd]
   exact Int.emod_emod_of_dvd _ ⟨_,rfl⟩
  exact Int.ofNat.inj this
 unfold uc
 rw[h1,Int.toNat_of_nonneg (Int.emod_nonneg _ (by omega))]
 have h3:=Int.emod_lt_of_pos x (show (0:Int)<2 ^ j by omega)
 have h4:=Int.emod_nonneg x (show (2:Int) ^ j≠0 by omega)
 exact eo (by omega) (by omega)
end Go.Proofs.YteldpmgepfaiiaaGreatDoor
