/- Walks of functions that the claim reaches, and plain facts of them. Conditions: those in the statements. -/
import Derived.Test.YtadbggfpnhkmbaaGreatQqOsj
import Derived.Test.YtadbggfpnhkmbaaGreatQqYaj
import Derived.Test.YtadbggfpnhkmbaaGreatQqKcj
set_option linter.unusedSimpArgs false
set_option linter.unusedVariables false
set_option maxRecDepth 100000
namespace Go.Proofs.YtadbggfpnhkmbaaGreat
open Go.RowKit
def selfT:List UInt8:=[116,104,105,115]
def retT:List UInt8:=[114,101,116,117,114,110]
def atC (x:List Cls)(n:List UInt8):Option Nat:=ixT n (x.map (·.nm))
def ownI (c:Cls)(n:List UInt8):Option Nat:=ixT n (c.mths.map (·.nm))
def ownM (c:Cls)(n:List UInt8):Option Mth:=(ownI c n).bind fun j=>c.mths[j]?
def chainN (x:List Cls):Nat→List UInt8→List Nat×Bool
 |0,_=>([],false)
 |f+1,n=>if n=[] then([],true)else match atC x n with
  |none=>([],false)
  |some k=>(k::(chainN x f ((x[k]?.map (·.par)).getD [])).1,(chainN x f ((x[k]?.map (·.par)).getD [])).2)
def upN (x:List Cls)(n:List UInt8):List Nat×Bool:=chainN x (x.length+1) n
def startN (x:List Cls)(k:Nat):Nat:=((x.take k).map (·.mths.length)).sum
def hitN (x:List Cls)(n:List UInt8)(st:Bool)(k:Nat):Option (Nat×Mth):=
 match x[k]? with
 |none=>none
 |some c=>match ownI c n with
  |none=>none
  |some j=>match c.mths[j]? with
   |none=>none
   |some m=>if m.stat=st then some (startN x k+j,m)else none
def firstN (x:List Cls)(n:List UInt8)(st:Bool):List Nat→Option (Nat×Mth)
 |[]=>none
 |k::l=>match hitN x n st k with
  |some r=>some r
  |none=>firstN x n st l
def lookN (x:List Cls)(cls n:List UInt8)(st:Bool):Option (Nat×Mth):=firstN x n st (upN x cls).1
def parsB (ps:List (List UInt8)):Bool:=(List.range ps.length).all fun i=>match ps[i]? with|some p=>decide (p≠selfT) && decide (ixT p ps=some i)|none=>true
def fitB (x:List Cls)(m:Mth)(k:Nat):Bool:=match x[k]? with
 |none=>true
 |some c=>match ownM c m.nm with|none=>true|some y=>y.stat == m.stat && decide (y.pars.length=m.pars.length)
def hdOk (x:List Cls)(c:Cls)(j:Nat)(m:Mth):Bool:=decide (ownI c m.nm=some j) && (parsB m.pars && (upN x c.par).1.all (fitB x m))
def calledB (x:List Cls)(n:List UInt8)(many:Nat):Bool:=x.any fun c=>match ownM c n with|none=>false|some m=>!m.stat && decide (m.pars.length=many)
mutual
def preS:Stm→List Stm
 |.mk k d s c m ar o t=>.mk k d s c m ar o t::(preL o++preL t)
def preL:List Stm→List Stm
 |[]=>[]
 |x::l=>preS x++preL l
end
def stmR (x:List Cls)(st:Bool):Stm→Bool
 |.mk k d s c n ar _ _=>!((decide (d=selfT) && decide (k≠4)) || (st && (decide (d=selfT) || decide (s=selfT) || ar.any fun a=>decide (a=selfT)))) &&
   (if k=1 then(atC x n).isSome else if k=6 then(match lookN x c n true with|none=>false|some y=>decide (y.2.pars.length=ar.length))else if k=5 then calledB x n ar.length else true)
def bodyR (x:List Cls)(m:Mth):Bool:=(preL m.body).all (stmR x m.stat)
def mthsR (x:List Cls)(c:Cls):Bool:=(List.range c.mths.length).all fun j=>match c.mths[j]? with|some m=>hdOk x c j m && bodyR x m|none=>true
def mainR (x:List Cls):Bool:=match atC x [77,97,105,110]with
 |none=>false
 |some k=>match x[k]? with
  |none=>false
  |some c=>match ownM c [109,97,105,110]with|none=>false|some m=>m.stat && decide (m.pars.length=0)
def rightE (x:List Cls):Int:=
 if checkB x=false then 1
 else if ¬ (x.map (·.nm)).Nodup then 160
 else if (x.all fun c=>(upN x c.nm).2)=false then 160
 else if x.all (mthsR x)=false then 160
 else if mainR x=false then 160 else 0
def addS (l:List (List UInt8))(t:List UInt8):List (List UInt8):=if t=[]∨t∈l then l else l++[t]
def addsS (l ts:List (List UInt8)):List (List UInt8):=ts.foldl addS l
def stTxt:Stm→List (List UInt8)
 |.mk _ d s _ _ ar _ _=>d::s::ar
structure Nms where
 mths:List (List UInt8)
 vars:List (List UInt8)
 sites:List (List UInt8)
 calls:List (List UInt8)
 owner:List Nat
 home:List Nat
 main:Nat
 fields:List (List UInt8)
 names:List (List UInt8)
def stmN (txt:List UInt8)(n:Nat)(q:Nms×List (List UInt8)):Stm→Nms×List (List UInt8)
 |.mk k d s c m ar o t=>
  let v:=addsS q.2 (d::s::ar)
  if k=1 then({ q.1 with sites:=q.1.sites++[m] },v)
  else if k=5 then({ q.1 with calls:=q.1.calls++[txt],home:=q.1.home++[n],names:=addS q.1.names m },v)
  else if k=6 then({ q.1 with calls:=q.1.calls++[txt],home:=q.1.home++[n] },v)
  else if k=3∨k=4 then({ q.1 with fields:=addS q.1.fields m },v)
  else(q.1,v)
def mthT (c:Cls)(m:Mth):List UInt8:=c.nm++[58,58]++m.nm
def vars0 (m:Mth):List (List UInt8):=addsS (addsS (if m.stat=true then [] else addsS [] [selfT]) m.pars) [retT]
def mthN (c:Cls)(q:Nms)(m:Mth):Nms:=
 let n:=q.mths.length
 let q1:Nms:={ q with mths:=q.mths++[mthT c m],main:=if mthT c m=[77,97,105,110,58,58,109,97,105,110] then n else q.main }
 let r:=(preL m.body).foldl (stmN (mthT c m) n) (q1,vars0 m)
 { r.1 with vars:=r.1.vars++r.2.map (fun v=>mthT c m++[46]++v),owner:=r.1.owner++r.2.map (fun _=>n) }
def clsN (q:Nms)(c:Cls):Nms:=c.mths.foldl (mthN c) q
def namesN (x:List Cls):Nms:=x.foldl clsN ⟨[],[],[],[],[],[],0,[],[]⟩
theorem ixT_at {l:List (List UInt8)}(hn:l.Nodup){i:Nat}{k:List UInt8}(h:l[i]?=some k):ixT k l=some i:=by
 induction l generalizing i with
 |nil=>simp at h
 |cons a r ih=>
  rw[List.nodup_cons]at hn
  cases i with
  |zero=>simp at h;subst h;simp[ixT]
  |succ i=>
   have h':r[i]?=some k:=by simpa using h
   have hne:¬ k=a:=fun e=>hn.1 (e ▸ List.mem_of_getElem? h')
   simp only[ixT]
   rw[if_neg hne,ih hn.2 h']
   rfl
theorem ixT_get {k:List UInt8}{l:List (List UInt8)}{i:Nat}(h:ixT k l=some i):l[i]?=some k:=ixT_lt h
structure Right (x:List Cls):Prop where
 chk:checkB x=true
 nod:(x.map (·.nm)).Nodup
 up:∀c,c∈x→(upN x c.nm).2=true
 mth:∀c,c∈x→∀(j:Nat) (m:Mth),c.mths[j]?=some m→hdOk x c j m=true∧bodyR x m=true
 main:mainR x=true
theorem start_le {x:List Cls}{i:Nat}{c:Cls}(hi:x[i]?=some c):startN x (i+1)=startN x i+c.mths.length:=by
 unfold startN
 rw[utake hi,List.map_append,List.sum_append]
 simp
def nms0:Nms:=⟨[],[],[],[],[],[],0,[],[]⟩
inductive Sl where
 |nw (v:List UInt8)
 |st (d s f:List UInt8)
def Sl.stm:Sl→Stm
 |.nw v=>.mk 1 v [] [] [77,97,105,110] [] [] []
 |.st d s f=>.mk 4 d s [] f [] [] []
def slX (l:List Sl):List Cls:=[⟨[77,97,105,110],[],[⟨true,[109,97,105,110],[],l.map Sl.stm⟩]⟩]
structure Sr where
 env:List (List UInt8×Nat)
 k:Nat
 seen:List (List Int)
 heap:List (List Int)
def pfxT:List UInt8:=[77,97,105,110,58,58,109,97,105,110,46]
def numK (V:List (List UInt8))(v:List UInt8):Nat:=(ixT (pfxT++v) V).getD 0
def exK (V F:List (List UInt8))(q:Sr):Sl→Sr
 |.nw v=>⟨ptA v q.k q.env,q.k+1,putK [(numK V v:Int),(q.k:Int)] q.seen,q.heap⟩
 |.st d s f=>match lkA d q.env,lkA s q.env with
  |some a,some b=>⟨q.env,q.k,q.seen,putK [(a:Int),(((ixT f F).getD 0:Nat):Int),(b:Int)] q.heap⟩
  |_,_=>q
def runK (V F:List (List UInt8))(l:List Sl)(m:Nat):Sr:=(l.take m).foldl (exK V F) ⟨[],0,[],[]⟩
def plV (i:Nat):List UInt8:=[118,UInt8.ofNat (97+i % 20),UInt8.ofNat (97+i / 20)]
def plAt (k:Nat):Sl:=if k % 2=1∨k=0 then .nw (plV ((k+1) / 2))else .st (plV (k / 2 - 1)) (plV (k / 2)) [102]
def plS (n:Nat):List Sl:=(List.range (2 * n - 1)).map plAt
theorem plV_inj:∀i,i<41→∀j,j<41→plV i=plV j→i=j:=by decide +kernel
theorem plV_ret:∀i,i<41→plV i≠retT∧plV i≠selfT∧plV i≠[]:=by decide +kernel
def plW (a:Nat):List (List UInt8):=retT::(List.range a).map plV
def plN (k:Nat):Nat:=if k=0 then 0 else k / 2+1
def plU (n:Nat):List (List UInt8):=(plW n).map fun v=>pfxT++v
theorem plU_num {n i:Nat}(hn:n≤40)(hi:i<n):numK (plU n) (plV i)=1+i:=by
 have hnd:(plU n).Nodup:=by
  unfold plU plW
  rw[List.map_cons,List.nodup_cons]
  constructor
  ·rw[List.map_map]
   intro h
   obtain⟨j,hj,e⟩:=List.mem_map.1 h
   rw[List.mem_range]at hj
   exact(plV_ret j (by omega)).1 (List.append_cancel_left e)
  ·rw[List.map_map]
   refine List.pairwise_map.2 ?_
   refine List.Pairwise.imp_of_mem (fun {a b} ha hb hab e=>hab ?_) List.nodup_range
   rw[List.mem_range]at ha hb
   exact plV_inj _ (by omega) _ (by omega) (List.append_cancel_left e)
 have hat:(plU n)[1+i]?=some (pfxT++plV i):=by
  unfold plU plW
  rw[List.getElem?_map,Nat.add_comm,List.getElem?_cons_succ,List.getElem?_map,List.getElem?_range hi]
  rfl
 unfold numK
 rw[ixT_at hnd hat]
 rfl
def plB (k:Nat):Nat:=(k - 1) / 2
def plR (k:Nat):Sr:=⟨(List.range (plN k)).map fun i=>(plV i,i),plN k,(List.range (plN k)).map fun i:Nat=>[((1+i:Nat):Int),(i:Int)],(List.range (plB k)).map fun i:Nat=>[(i:Int),0,((i+1:Nat):Int)]⟩
theorem pl_lk {a i:Nat}(ha:a<41)(hi:i<a):lkA (plV i) ((List.range a).map fun i=>(plV i,i))=some i:=by
 have key:∀(l:List Nat),(∀j,j∈l→j<41)→i∈l→lkA (plV i) (l.map fun i=>(plV i,i))=some i:=by
  intro l
  induction l with
  |nil=>intro _ h;cases h
  |cons b l ih=>
   intro hl hm
   simp only[List.map_cons,lkA]
   by_cases e:i=b
   ·subst e;rw[if_pos rfl]
   ·rw[if_neg (fun h=>e (plV_inj i (by omega) b (hl b (by simp)) h))]
    refine ih (fun j hj=>hl j (by simp[hj])) ?_
    rcases List.mem_cons.1 hm with h|h
    ·exact absurd h e
    ·exact h
 exact key _ (fun j hj=>by rw[List.mem_range]at hj;omega) (List.mem_range.2 hi)
theorem pl_pt {a:Nat}(ha:a<41):ptA (plV a) a ((List.range a).map fun i=>(plV i,i))=(List.range (a+1)).map fun i=>(plV i,i):=by
 rw[ptA_new,List.range_succ,List.map_append]
 ·rfl
 ·rw[List.map_map]
  intro h
  obtain⟨j,hj,e⟩:=List.mem_map.1 h
  rw[List.mem_range]at hj
  have:=plV_inj j (by omega) a ha e
  omega
theorem putK_new {f:Nat→List Int}{a:Nat}(h:∀i,i<a→f i≠f a):putK (f a) ((List.range a).map f)=(List.range (a+1)).map f:=by
 unfold putK
 rw[if_neg (by
  intro hm
  obtain⟨i,hi,e⟩:=List.mem_map.1 hm
  exact h i (List.mem_range.1 hi) e),List.range_succ,List.map_append]
 rfl
theorem plR_step {n k:Nat}(hn:n≤40)(hk:k<2 * n - 1):exK (plU n) [[102]] (plR k) (plAt k)=plR (k+1):=by
 unfold plAt
 by_cases h:k % 2=1∨k=0
 ·rw[if_pos h]
  have e:(k+1) / 2=plN k:=by unfold plN;split<;>omega
  have e2:plN (k+1)=plN k+1:=by unfold plN;rw[if_neg (by omega)];split<;>omega
  have e3:plB (k+1)=plB k:=by unfold plB;omega
  have hlt:plN k<n:=by unfold plN;split<;>omega
  unfold exK plR
  simp only[e,e2,e3]
  rw[pl_pt (by omega),plU_num hn hlt]
  rw[putK_new (f:=fun i:Nat=>[((1+i:Nat):Int),(i:Int)]) (fun i hi he=>by
   simp only[List.cons.injEq]at he
   omega)]
 ·rw[if_neg h]
  have h0:k≠0:=fun e=>h (.inr e)
  have h2:k % 2=0:=by have:¬ k % 2=1:=fun e=>h (.inl e);omega
  have e2:plN (k+1)=plN k:=by unfold plN;rw[if_neg (by omega),if_neg h0];omega
  have e3:plB (k+1)=plB k+1:=by unfold plB;omega
  have e4:plB k=k / 2 - 1:=by unfold plB;omega
  have e5:plN k=k / 2+1:=by unfold plN;rw[if_neg h0]
  have e6:(ixT [102] [[102]]).getD 0=0:=by decide
  unfold exK plR
  simp only[e2,e3,e5]
  rw[pl_lk (by omega) (by omega),pl_lk (by omega) (by omega)]
  simp only[e6,e4]
  rw[show (k / 2:Nat)=(k / 2 - 1)+1 by omega]
  simp only[Nat.add_sub_cancel]
  rw[show ((0:Nat):Int)=0 from rfl,putK_new (f:=fun i:Nat=>[(i:Int),0,((i+1:Nat):Int)]) (fun i hi he=>by
   simp only[List.cons.injEq]at he
   omega)]
theorem plR_run {n:Nat}(hn:n≤40):∀(k:Nat),k≤2 * n - 1→runK (plU n) [[102]] (plS n) k=plR k
 |0,_=>rfl
 |k+1,hk=>by
  have hat:(plS n)[k]?=some (plAt k):=by
   unfold plS
   rw[List.getElem?_map,List.getElem?_range (by omega)]
   rfl
  unfold runK
  rw[utake hat,List.foldl_append]
  have:=plR_run hn k (by omega)
  unfold runK at this
  rw[this]
  exact plR_step hn (by omega)
end Go.Proofs.YtadbggfpnhkmbaaGreat
set_option maxRecDepth 1000000
namespace Go.Proofs.YtadbggfpnhkmbaaGreat
open Go.RowKit
theorem pl_right:∀n,n<41→0<n→rightE (slX (plS n))=0:=by decide +kernel
theorem pl_names:∀n,n<41→0<n→(namesN (slX (plS n))).vars=plU n∧(namesN (slX (plS n))).main=0∧(1<n→(namesN (slX (plS n))).fields=[[102]]):=by decide +kernel
def Sl.isN:Sl→Bool
 |.nw _=>true
 |.st _ _ _=>false
def cntN (l:List Sl):Nat:=(l.filter Sl.isN).length
def codeC (x:Sl)(n:Nat):List VV:=stC x.stm++[.int .i64 (n:Int),.lst [] .full,.lst [] .full]
def numAt (l:List Sl)(j:Nat):Nat:=match l[j]? with|some (.nw _)=>cntN (l.take j)|_=>0
def codeAt (l:List Sl)(j:Nat):List VV:=match l[j]? with|some x=>codeC x (numAt l j)|none=>[]
def codesN (l:List Sl)(i:Nat):List (List VV):=(List.range i).map (codeAt l)
theorem codesN_succ {l:List Sl}{i:Nat}:codesN l (i+1)=codesN l i++[codeAt l i]:=by
 unfold codesN;rw[List.range_succ,List.map_append];rfl
theorem codesN_len {l:List Sl}{i:Nat}:(codesN l i).length=i:=by simp[codesN]
theorem codesN_at {l:List Sl}{i j:Nat}(h:j<i):(codesN l i)[j]?=some (codeAt l j):=by
 unfold codesN;rw[List.getElem?_map,List.getElem?_range h];rfl
theorem codeAt_eq {l:List Sl}{j:Nat}{x:Sl}(h:l[j]?=some x):codeAt l j=codeC x (numAt l j):=by unfold codeAt;rw[h]
theorem numAt_nw {l:List Sl}{j:Nat}{v:List UInt8}(h:l[j]?=some (.nw v)):numAt l j=cntN (l.take j):=by unfold numAt;rw[h]
theorem numAt_st {l:List Sl}{j:Nat}{d s f:List UInt8}(h:l[j]?=some (.st d s f)):numAt l j=0:=by unfold numAt;rw[h]
theorem cntN_succ {l:List Sl}{j:Nat}{x:Sl}(h:l[j]?=some x):cntN (l.take (j+1))=cntN (l.take j)+if x.isN then 1 else 0:=by
 unfold cntN
 rw[utake h,List.filter_append,List.length_append]
 cases hx:x.isN<;>simp[hx]
theorem cntN_le (l:List Sl):cntN l≤l.length:=List.length_filter_le _ _
theorem exK_k (V F:List (List UInt8))(q:Sr)(x:Sl):(exK V F q x).k=q.k+if x.isN then 1 else 0:=by
 cases x with
 |nw v=>rfl
 |st d s f=>
  unfold exK
  simp only[Sl.isN]
  split<;>rfl
theorem runK_succ {V F:List (List UInt8)}{l:List Sl}{m:Nat}{x:Sl}(h:l[m]?=some x):runK V F l (m+1)=exK V F (runK V F l m) x:=by
 unfold runK
 rw[utake h,List.foldl_append]
 rfl
theorem runK_k (V F:List (List UInt8))(l:List Sl):∀(m:Nat),m≤l.length→(runK V F l m).k=cntN (l.take m)
 |0,_=>rfl
 |m+1,h=>by
  obtain⟨x,hx⟩:=uget (l:=l) (i:=m) (by omega)
  rw[runK_succ hx,exK_k,runK_k V F l m (by omega),cntN_succ hx]
theorem stsC_sl (l:List Sl){j:Nat}{x:Sl}(h:l[j]?=some x):(stsC (l.map Sl.stm))[j]?=some (stC x.stm):=by
 rw[stsC_map,List.getElem?_map,List.getElem?_map,h];rfl
theorem stsC_sll (l:List Sl):(stsC (l.map Sl.stm)).length=l.length:=by rw[stsC_map];simp
theorem stC_sl (x:Sl):stC x.stm=(match x with
 |.nw v=>[.int .i64 1,.str v,.str [],.str [],.str [77,97,105,110],.lst [] .no,.lst [] .no,.lst [] .no]
 |.st d s f=>[.int .i64 4,.str d,.str s,.str [],.str f,.lst [] .no,.lst [] .no,.lst [] .no]):=by cases x<;>rfl
theorem ptrO_some {b:Nat}:ptrO (some b)=.ptr b 0:=rfl
theorem lkA_map {ob:Nat→Nat}{v:List UInt8}:∀{env:List (List UInt8×Nat)},lkA v (env.map fun x=>(x.1,ob x.2))=(lkA v env).map ob
 |[]=>rfl
 |a::env=>by
  have ih:=lkA_map (ob:=ob) (v:=v) (env:=env)
  simp only[List.map_cons,lkA]
  split
  ·rfl
  ·exact ih
section
variable {t u : St} {K : Kc} {ml : VV} {cs : List VV} {env : List (List UInt8 × Nat)} {k : Nat} {ls : Nat → List (List Int)} {gs ob fo : Nat → Nat}
theorem keep3 {x f o:Nat}{c d e:Cell}(hx:t x=.free)(hf:t f=.free)(ho:t o=.free):∀y,t y≠.free→(((t.set x c).set f d).set o e) y=t y:=fun y hy=>by
 rw[St.set_other _ _ (liveK hy ho),St.set_other _ _ (liveK hy hf),St.set_other _ _ (liveK hy hx)]
theorem KAt.new3 (h:KAt t K ml cs env k ls gs ob fo){x f o:Nat}{c:Cell}(hx:t x=.free)(hf:t f=.free)(ho:t o=.free)(n3:¬ f=o) :
  KAt (((t.set x c).set f (.map [])).set o (.obj 111 [.int .i64 (k:Int),.mp f])) K ml cs env (k+1) ls gs (setN ob k o) (setN fo k f):=
 h.new (keep3 hx hf ho) hf ho (by rw[St.set_other _ _ n3,St.set_same];rfl) (St.set_same _ _ _)
theorem KAt.new3_out {x f o:Nat}{c d e:Cell}(hx:t x=.free)(hf:t f=.free)(ho:t o=.free):KOut t (((t.set x c).set f d).set o e) (KF K k ls gs fo) (KF K (k+1) ls gs (setN fo k f)):=
 KAt.new_out (keep3 hx hf ho) hf
theorem KAt.fld3 (h:KAt t K ml cs env k ls gs ob fo){x a:Nat}{c:Cell}{L:List (List UInt8×Nat)}(hx:t x=.free)(ha:a<k):KAt ((t.set x c).set (fo a) (.map (mpV encQ L))) K ml cs env k ls gs ob fo:=
 (h.keep (fun y hy=>St.set_other _ _ (liveK hy hx))).map (.inr ⟨rfl,a,L,ha,rfl,rfl⟩) h.ek
theorem KAt.fld3_out (h:KAt t K ml cs env k ls gs ob fo){x a:Nat}{c d:Cell}(hx:t x=.free)(ha:a<k):KOut t ((t.set x c).set (fo a) d) (KF K k ls gs fo) (KF K k ls gs fo):=
 KOut.trans ⟨fun y hy _=>St.set_other _ _ (liveK hy hx),fun y hy=>.inl hy⟩ ((h.keep (u:=t.set x c) (fun y hy=>St.set_other _ _ (liveK hy hx))).map_out (.inr ⟨a,ha,rfl⟩))
end
attribute [local go_sem] p_lkQ p_upQ cvpK nilpK onenK ptrO_some
set_option maxHeartbeats 8000000 in
theorem Kone_nw (t:St)(K:Kc)(tx:List UInt8)(bd cd:VV)(cs:List VV)(env:List (List UInt8×Nat))(k:Nat)(ls:Nat→List (List Int))(gs ob fo:Nat→Nat)(h:KAt t K (mlK tx bd cd) cs env k ls gs ob fo)
  (v:List UInt8) (n:Nat) (hk:(lkA (tx++[46]++v) (plcP K.V)).getD 0=(n:Int)) (hn:n<256) (hi2:k<256) (htl:tx.length≤1000) (hvl:v.length≤1000) (h0:(ls 0).length<1000000) (h2:(ls 2).length<1000000) :
  SCalls Tryz.prog 20 [.ptr K.p 0,.ptr K.a 0,.agg (codeC (.nw v) k)] t fun w u=>∃q:St,w=.ret (.tup [])∧u=q∧∃cs' g1 g4 o f,KAt q K (mlK tx bd cd) cs' (ptA v k env) (k+1) (setN (setN ls 0 (putK [(n:Int),(k:Int)] (ls 0))) 2 (putK [(n:Int),(k:Int)] (ls 2))) (setN (setN gs 0 g1) 2 g4) (setN ob k o) (setN fo k f) ∧
   KOut t q (KF K k ls gs fo) (KF K (k+1) (setN (setN ls 0 (putK [(n:Int),(k:Int)] (ls 0))) 2 (putK [(n:Int),(k:Int)] (ls 2))) (setN (setN gs 0 g1) 2 g4) (setN fo k f))∧∀j,25≤j→j<30→cs'[j]?=cs[j]?:=by
 have hc:codeC (.nw v) k=[.int .i64 1,.str v,.str [],.str [],.str [77,97,105,110],.lst [] .no,.lst [] .no,.lst [] .no,.int .i64 (k:Int),.lst [] .full,.lst [] .full]:=by unfold codeC;rw[stC_sl];rfl
 rw[hc]
 have hfr:=h.fr
 have hev:=h.ev
 have f1:t K.a≠.free:=by rw[hfr];simp
 have f2:t K.av≠.free:=by rw[hev];simp
 have H:=Lib.hid h
 have HK:=Lib.hid h0
 have HK2:=Lib.hid h2
 have wset:=fun(S:St) (f o:Nat) h=>Kset_S S K tx bd cd cs env (k+1) ls gs (setN ob k o) (setN fo k f) h k (by omega) v n hk hn hi2 htl hvl h0 h2
 simp only[setN_same]at wset
 have HKK:=Lib.hid hk
 clear h h0 h2 hc hk
 refine G_enter Tryz.func20 rfl Tryz.ntmps20 rfl fun Q hQ hQe=>?_
 (repeat'(first|refine Ctl ?_|((with_reducible refine Kof.use hK ?_);clear hK hE K E)|((with_reducible refine Eof.use hE ?_);(try clear hK hE K E))|((with_reducible refine Kof.use hKh ?_);clear hKh Kh)|((with_reducible refine Kof.use hKb (P_next ?_));clear hKb Kb)|(with_reducible first|refine G_plan 1 [] [0,1,2,3,4,5,6,7,8] hQe fun K E hK hE=>?_|refine G_plan 9 [([0,1,2,3,4,5,6,7,8,9,10,11,12],13,[[]])] [] hQe fun K E hK hE=>?_|refine G_plan 11 [] [0,1,2,3,4,5,6,7,8] hQe fun K E hK hE=>?_|refine G_plan 13 [([0,1,2,3,4,5,6,7],8,[[]])] [] hQe fun K E hK hE=>?_|refine G_plan 14 [([0,1,2,3,4,5,6,7,8,9,10,11,12,13,14,15,16,17,18,19],20,[[]])] [] hQe fun K E hK hE=>?_|refine G_plan 16 [([0,1,2,3,4,5,6,7,8,9],10,[[]])] [11,12,13,14,15] hQe fun K E hK hE=>?_|refine G_plan 20 [([0,1,2,3,4,5,6,7],8,[[]])] [9] hQe fun K E hK hE=>?_|refine G_plan 21 [] [0,1,2,3,4,5,6,7,8,9,10,11,12,13,14,15,16,17,18] hQe fun K E hK hE=>?_)|((with_reducible refine W_cond (fun h=>?_) (fun h=>?_))<;>(try(exfalso;first|assumption|omega)))|((first|(with_reducible first|refine G_region fun K E hK hE=>?_|refine W_if ?_|refine W_ifS ?_|refine P_heads fun Kh hKh=>?_|refine P_fin fun Kh hKh=>?_|refine P_each fun Kb hKb=>?_|refine W_and ?_)|((with_reducible refine call_ex can33 ((wset _ _ _ (H.out.new3 (by assumption) (by assumption) (by assumption) (by assumption)))) (fun a h=>?_)))|((with_reducible refine W_fresh (fun b hb=>?_));(repeat(obtain⟨_,hb⟩:=hb));(try(obtain⟨_,_⟩:=nef hb f1;obtain⟨_,_⟩:=nef hb f2)))|((with_reducible refine W_gd (fun h=>?_) (fun h=>?_))<;>(try(exfalso;first|assumption|omega))))<;>(try simp(disch:=first|assumption|omega) only[go_sem,seval, *]))))
 obtain⟨cs',g1,g4,r1,r2,r3⟩:=h
 (first|refine W_ret res20 hQ ?_|refine W_norm res20 hQ ?_|refine G_pan hQ ?_)
 exact⟨_,a,Wk.refl _,Fg.refl _,a,rfl,rfl,cs',g1,g4,_,_,r1,(KAt.new3_out (by assumption) (by assumption) (by assumption)).trans r2,r3⟩
set_option maxHeartbeats 8000000 in
theorem Kone_st (t:St)(K:Kc)(tx:List UInt8)(bd cd:VV)(cs:List VV)(env:List (List UInt8×Nat))(k:Nat)(ls:Nat→List (List Int))(gs ob fo:Nat→Nat)(h:KAt t K (mlK tx bd cd) cs env k ls gs ob fo)
  (d s f:List UInt8) (a b fn:Nat) (ha:lkA d env=some a) (hb:lkA s env=some b) (hak:a<k) (hbk:b<k) (hk:(lkA f (plcP K.F)).getD 0=(fn:Int)) (hn:fn<256) (hi2:k<256) (h1:(ls 1).length<1000000) :
  SCalls Tryz.prog 20 [.ptr K.p 0,.ptr K.a 0,.agg (codeC (.st d s f) 0)] t fun w u=>∃q:St,w=.ret (.tup [])∧u=q∧∃cs' g2,KAt q K (mlK tx bd cd) cs' env k (setN ls 1 (putK [(a:Int),(fn:Int),(b:Int)] (ls 1))) (setN gs 1 g2) ob fo ∧
   KOut t q (KF K k ls gs fo) (KF K k (setN ls 1 (putK [(a:Int),(fn:Int),(b:Int)] (ls 1))) (setN gs 1 g2) fo)∧∀j,25≤j→j<30→cs'[j]?=cs[j]?:=by
 have hc:codeC (.st d s f) 0=[.int .i64 4,.str d,.str s,.str [],.str f,.lst [] .no,.lst [] .no,.lst [] .no,.int .i64 0,.lst [] .full,.lst [] .full]:=by unfold codeC;rw[stC_sl];rfl
 rw[hc]
 have hfr:=h.fr
 have hev:=h.ev
 have hm:=h.m
 have hfs:=h.fs
 have hc24:=h.c24
 have hl:=h.len
 obtain⟨o1,L,o2⟩:=h.o a hak
 obtain⟨o3,_⟩:=h.o b hbk
 have f1:t K.a≠.free:=by rw[hfr];simp
 have f2:t K.av≠.free:=by rw[hev];simp
 have f3:t K.p≠.free:=by rw[hm];simp
 have f4:t K.fm≠.free:=by rw[hfs];simp
 have f5:t (ob a)≠.free:=by rw[o1];simp
 have f6:t (fo a)≠.free:=by rw[o2];simp
 have f7:t (ob b)≠.free:=by rw[o3];simp
 have n1:¬ K.p=fo a:=neC hm o2 (by simp)
 have n2:¬ K.fm=fo a:=fun e=>h.nf a hak (by rw[← e];simp[Kc.maps])
 have n3:¬ ob a=fo a:=neC o1 o2 (by simp)
 have n4:¬ ob b=fo a:=neC o3 o2 (by simp)
 have n5:¬ K.av=fo a:=fun e=>h.nf a hak (by rw[← e];simp[Kc.maps])
 have hla:lkA d (env.map fun x=>(x.1,ob x.2))=some (ob a):=by rw[lkA_map,ha];rfl
 have hlb:lkA s (env.map fun x=>(x.1,ob x.2))=some (ob b):=by rw[lkA_map,hb];rfl
 have l24:24+1≤cs.length:=by omega
 have l32:32+1≤cs.length:=by omega
 have H:=Lib.hid h
 have hsm:Sm3 [(a:Int),(fn:Int),(b:Int)]:=⟨by simp,by intro z hz;simp at hz;omega⟩
 have w1:=fun S h=>KputA S K (mlK tx bd cd) cs env k ls gs ob fo h 1 (by omega) [(a:Int),(fn:Int),(b:Int)] hsm h1 .full
 have e1:offK 1=32:=rfl
 have ei:intsL [(a:Int),(fn:Int),(b:Int)]=[[.int .i64 (a:Int)],[.int .i64 (fn:Int)],[.int .i64 (b:Int)]]:=rfl
 simp only[e1,ei]at w1
 have HK:=Lib.hid h1
 clear h h1 hc ha hb hsm e1 ei
 refine G_enter Tryz.func20 rfl Tryz.ntmps20 rfl fun Q hQ hQe=>?_
 (repeat'(first|refine Ctl ?_|((with_reducible refine Kof.use hK ?_);clear hK hE K E)|((with_reducible refine Eof.use hE ?_);(try clear hK hE K E))|((with_reducible refine Kof.use hKh ?_);clear hKh Kh)|((with_reducible refine Kof.use hKb (P_next ?_));clear hKb Kb)|(with_reducible first|refine G_plan 1 [] [0,1,2,3,4,5,6,7,8] hQe fun K E hK hE=>?_|refine G_plan 9 [([0,1,2,3,4,5,6,7,8,9,10,11,12],13,[[]])] [] hQe fun K E hK hE=>?_|refine G_plan 11 [] [0,1,2,3,4,5,6,7,8] hQe fun K E hK hE=>?_|refine G_plan 13 [([0,1,2,3,4,5,6,7],8,[[]])] [] hQe fun K E hK hE=>?_|refine G_plan 14 [([0,1,2,3,4,5,6,7,8,9,10,11,12,13,14,15,16,17,18,19],20,[[]])] [] hQe fun K E hK hE=>?_|refine G_plan 16 [([0,1,2,3,4,5,6,7,8,9],10,[[]])] [11,12,13,14,15] hQe fun K E hK hE=>?_|refine G_plan 20 [([0,1,2,3,4,5,6,7],8,[[]])] [9] hQe fun K E hK hE=>?_|refine G_plan 21 [] [0,1,2,3,4,5,6,7,8,9,10,11,12,13,14,15,16,17,18] hQe fun K E hK hE=>?_)|((with_reducible refine W_cond (fun h=>?_) (fun h=>?_))<;>(try(exfalso;first|assumption|omega)))|((first|(with_reducible first|refine G_region fun K E hK hE=>?_|refine W_if ?_|refine W_ifS ?_|refine P_heads fun Kh hKh=>?_|refine P_fin fun Kh hKh=>?_|refine P_each fun Kb hKb=>?_|refine W_and ?_)|((with_reducible refine call_ex can34 ((w1 _ (H.out.fld3 (by assumption) hak))) (fun a h=>?_)))|((with_reducible refine W_fresh (fun b hb=>?_));(repeat(obtain⟨_,hb⟩:=hb));(try((obtain⟨_,_⟩:=nef hb f1);(obtain⟨_,_⟩:=nef hb f2);(obtain⟨_,_⟩:=nef hb f3);(obtain⟨_,_⟩:=nef hb f4);(obtain⟨_,_⟩:=nef hb f5);(obtain⟨_,_⟩:=nef hb f6);(obtain⟨_,_⟩:=nef hb f7))))|((with_reducible refine W_gd (fun h=>?_) (fun h=>?_))<;>(try(exfalso;first|assumption|omega))))<;>(try simp(disch:=first|assumption|omega) only[go_sem,seval,hla,hlb,hk, *]))))
 obtain⟨r1,r2,r3⟩:=h
 (first|refine W_ret res20 hQ ?_|refine W_norm res20 hQ ?_|refine G_pan hQ ?_)
 exact⟨_,a.1,Wk.refl _,Fg.refl _,a.1,rfl,rfl,a.2.1,a.2.2,r1,(H.out.fld3_out (by assumption) hak).trans r2,r3⟩
end Go.Proofs.YtadbggfpnhkmbaaGreat
namespace Go.Proofs.YtadbggfpnhkmbaaGreat
open Go.RowKit
def lsR (q:Sr):Nat→List (List Int):=setN (setN (setN (fun _=>[]) 0 q.seen) 1 q.heap) 2 q.seen
theorem lsR_nw (q:Sr)(r:List Int):setN (setN (lsR q) 0 (putK r (lsR q 0))) 2 (putK r (lsR q 2))=lsR ⟨q.env,q.k,putK r q.seen,q.heap⟩:=by
 funext i
 unfold lsR setN
 by_cases h0:i=0
 ·subst h0;simp
 ·by_cases h1:i=1
  ·subst h1;simp
  ·by_cases h2:i=2
   ·subst h2;simp
   ·simp[h0,h1,h2]
theorem lsR_st (q:Sr)(r:List Int):setN (lsR q) 1 (putK r (lsR q 1))=lsR ⟨q.env,q.k,q.seen,putK r q.heap⟩:=by
 funext i
 unfold lsR setN
 by_cases h0:i=0
 ·subst h0;simp
 ·by_cases h1:i=1
  ·subst h1;simp
  ·by_cases h2:i=2
   ·subst h2;simp
   ·simp[h0,h1,h2]
structure SlOk (V F:List (List UInt8)) (l:List Sl):Prop where
 len:l.length≤250
 nv:V.Nodup
 nf:F.Nodup
 nw:∀(m:Nat) (v:List UInt8),l[m]?=some (.nw v)→v.length≤1000∧numK V v<256
 st:∀(m:Nat) (d s f:List UInt8),l[m]?=some (.st d s f)→(∃a,lkA d (runK V F l m).env=some a)∧(∃b,lkA s (runK V F l m).env=some b)∧(ixT f F).getD 0<256
theorem runK_le (V F:List (List UInt8))(l:List Sl):∀m,(runK V F l m).k≤m∧(runK V F l m).seen.length≤m∧(runK V F l m).heap.length≤m
 |0=>⟨Nat.le_refl _,Nat.le_refl _,Nat.le_refl _⟩
 |m+1=>by
  obtain⟨h1,h2,h3⟩:=runK_le V F l m
  cases hx:l[m]? with
  |none=>
   have:runK V F l (m+1)=runK V F l m:=by
    unfold runK
    rw[List.take_of_length_le (by have:=List.getElem?_eq_none_iff.1 hx;omega),List.take_of_length_le (by have:=List.getElem?_eq_none_iff.1 hx;omega)]
   rw[this];omega
  |some x=>
   rw[runK_succ hx]
   cases x with
   |nw v=>
    have:=putK_len (r:=[(numK V v:Int),((runK V F l m).k:Int)]) (l:=(runK V F l m).seen)
    exact⟨Nat.succ_le_succ h1,Nat.le_trans this (Nat.succ_le_succ h2),Nat.le_succ_of_le h3⟩
   |st d s f=>
    simp only[exK]
    have:=fun a b=>putK_len (r:=[(a:Int),(((ixT f F).getD 0:Nat):Int),(b:Int)]) (l:=(runK V F l m).heap)
    cases hd:lkA d (runK V F l m).env with
    |none=>exact⟨Nat.le_succ_of_le h1,Nat.le_succ_of_le h2,Nat.le_succ_of_le h3⟩
    |some a=>cases hs:lkA s (runK V F l m).env with
     |none=>exact⟨Nat.le_succ_of_le h1,Nat.le_succ_of_le h2,Nat.le_succ_of_le h3⟩
     |some b=>exact⟨Nat.le_succ_of_le h1,Nat.le_succ_of_le h2,Nat.le_trans (this a b) (Nat.succ_le_succ h3)⟩
theorem exK_st {V F:List (List UInt8)}{q:Sr}{d s f:List UInt8}{a b:Nat}(ha:lkA d q.env=some a)(hb:lkA s q.env=some b):exK V F q (.st d s f)=⟨q.env,q.k,q.seen,putK [(a:Int),(((ixT f F).getD 0:Nat):Int),(b:Int)] q.heap⟩:=by simp only[exK,ha,hb]
section
variable {t u : St} {K : Kc} {ml : VV} {cs : List VV} {env : List (List UInt8 × Nat)} {k : Nat} {ls : Nat → List (List Int)} {gs ob fo : Nat → Nat}
theorem KAt.boxst (h:KAt t K ml cs env k ls gs ob fo){x i:Nat}{c:Cell}{v:VV}(hx:t x=.free)(hi:25≤i)(hi2:i<30):KAt ((t.set x c).set K.p (.obj 59 (cs.set i v))) K ml (cs.set i v) env k ls gs ob fo:=
 (h.keep (fun y hy=>St.set_other _ _ (liveK hy hx))).step hi hi2
theorem KAt.boxst_out {x:Nat}{c:Cell}{cs':List VV}(hx:t x=.free):KOut t ((t.set x c).set K.p (.obj 59 cs')) (KF K k ls gs fo) (KF K k ls gs fo):=
 KOut.trans ⟨fun y hy _=>St.set_other _ _ (liveK hy hx),fun y hy=>.inl hy⟩ KAt.step_out
end
theorem McAt.of {cs cs':List VV}{most steps:Int}{stop:Bool}(h:McAt cs most steps stop)(hl:cs'.length=38)(he:∀j,25≤j→j<30→cs'[j]?=cs[j]?):McAt cs' most steps stop:=
 ⟨hl,by rw[he 27 (by omega) (by omega)];exact h.most,by rw[he 28 (by omega) (by omega)];exact h.steps,by rw[he 29 (by omega) (by omega)];exact h.stop⟩
theorem McAt.up {cs:List VV}{most steps:Int}{stop:Bool}(h:McAt cs most steps stop):McAt (cs.set 28 (.int .i64 (steps+1))) most (steps+1) stop:=
 ⟨by rw[List.length_set];exact h.len,by rw[List.getElem?_set_ne (by omega)];exact h.most,List.getElem?_set_self (by rw[h.len];omega),by rw[List.getElem?_set_ne (by omega)];exact h.stop⟩
theorem McAt.halt {cs:List VV}{most steps:Int}{stop:Bool}(h:McAt cs most steps stop):McAt (cs.set 29 (.bool true)) most steps true:=
 ⟨by rw[List.length_set];exact h.len,by rw[List.getElem?_set_ne (by omega)];exact h.most,by rw[List.getElem?_set_ne (by omega)];exact h.steps,List.getElem?_set_self (by rw[h.len];omega)⟩
theorem numK_lk {V:List (List UInt8)}(hV:V.Nodup)(v:List UInt8):(lkA ([77,97,105,110,58,58,109,97,105,110]++[46]++v) (plcP V)).getD 0=(numK V v:Int):=by
 rw[plcP_eq hV,plcA_lk]
 rfl
theorem codes_nw {l:List Sl}{i:Nat}{v:List UInt8}(h:l[i]?=some (.nw v)):(codesN l l.length)[i]?=some (codeC (.nw v) (cntN (l.take i))):=by
 rw[codesN_at (List.getElem?_eq_some_iff.1 h).1,codeAt_eq h,numAt_nw h]
theorem codes_st {l:List Sl}{i:Nat}{d s f:List UInt8}(h:l[i]?=some (.st d s f)):(codesN l l.length)[i]?=some (codeC (.st d s f) 0):=by
 rw[codesN_at (List.getElem?_eq_some_iff.1 h).1,codeAt_eq h,numAt_st h]
theorem codeC_nw {v:List UInt8}{n:Nat}:codeC (.nw v) n=[.int .i64 1,.str v,.str [],.str [],.str [77,97,105,110],.lst [] .no,.lst [] .no,.lst [] .no,.int .i64 (n:Int),.lst [] .full,.lst [] .full]:=by
 unfold codeC;rw[stC_sl];rfl
theorem codeC_st {d s f:List UInt8}{n:Nat}:codeC (.st d s f) n=[.int .i64 4,.str d,.str s,.str [],.str f,.lst [] .no,.lst [] .no,.lst [] .no,.int .i64 (n:Int),.lst [] .full,.lst [] .full]:=by
 unfold codeC;rw[stC_sl];rfl
theorem lkA_memK {v:List UInt8}{a:Nat}:∀{env:List (List UInt8×Nat)},lkA v env=some a→(v,a)∈env
 |[],h=>by simp[lkA]at h
 |b::env,h=>by
  simp only[lkA]at h
  split at h
  ·rename_i e
   injection h with h
   subst h
   simp[e]
  ·exact List.mem_cons_of_mem _ (lkA_memK h)
attribute [local go_sem] cvpK nilpK onenK
def RunAt (t S:St)(K:Kc)(ml:VV)(l:List Sl)(most:Int)(gs0 fo0:Nat→Nat)(i:Nat)(stop:Bool):Prop:=
 ∃cs gs ob fo,KAt S K ml cs (runK K.V K.F l i).env (runK K.V K.F l i).k (lsR (runK K.V K.F l i)) gs ob fo ∧
  KOut t S (KF K 0 (fun _=>[]) gs0 fo0) (KF K (runK K.V K.F l i).k (lsR (runK K.V K.F l i)) gs fo)∧McAt cs most i stop
set_option maxHeartbeats 16000000 in
theorem Kblock_S (t:St)(K:Kc)(bd cd:VV)(l:List Sl)(oL:Own)(most:Int)(gs0 fo0:Nat→Nat)(hok:SlOk K.V K.F l)(hm0:0≤most)(h:RunAt t t K (mlK [77,97,105,110,58,58,109,97,105,110] bd cd) l most gs0 fo0 0 false) :
  SCalls Tryz.prog 10 [.ptr K.p 0,.ptr K.a 0,.lst (codesN l l.length) oL] t fun w u=>∃q:St,w=.ret (.tup [])∧u=q∧RunAt t q K (mlK [77,97,105,110,58,58,109,97,105,110] bd cd) l most gs0 fo0 (min l.length most.toNat) (decide (most<l.length)):=by
 have hcl:(codesN l l.length).length=l.length:=codesN_len
 have hll:=hok.len
 have HOK:=Lib.hid hok
 have H:=Lib.hid h
 clear hok h
 refine G_enter Tryz.func10 rfl Tryz.ntmps10 rfl fun Q hQ hQe=>?_
 (repeat'(first|refine Ctl ?_|((with_reducible refine Kof.use hK ?_);clear hK hE K E)|((with_reducible refine Eof.use hE ?_);(try clear hK hE K E))|((with_reducible refine W_cond (fun h=>?_) (fun h=>?_))<;>(try(exfalso;first|assumption|omega)))|((first|(with_reducible first|refine G_region fun K E hK hE=>?_|refine W_if ?_|refine W_ifS ?_|refine W_and ?_)|((with_reducible refine W_fresh (fun b hb=>?_));(repeat(obtain⟨_,hb⟩:=hb)))|((with_reducible refine W_gd (fun h=>?_) (fun h=>?_))<;>(try(exfalso;first|assumption|omega))))<;>(try simp(disch:=first|assumption|omega) only[go_sem,seval,hcl, *]))))
 refine L_loop (fun m env s'=>∃(i:Nat),i≤l.length∧m+i=l.length∧(i:Int)≤most∧Hid (RunAt t s' K (mlK [77,97,105,110,58,58,109,97,105,110] bd cd) l most gs0 fo0 i false)∧env 0=.ptr K.p 0∧env 1=.ptr K.a 0∧env 8=.lst (codesN l l.length) oL∧env 9=.int .i64 l.length∧env 10=.int .i64 i) l.length
  ⟨0,by omega,by omega,by omega,H,z_sl,z_sl,z_sl,z_sl,z_sl⟩ ?_
 clear H
 rintro m env S ⟨i,hi,hm,him,HR,e0,e1,e8,e9,e10⟩
 by_cases hlt:i<l.length
 ·obtain⟨x,hx⟩:=uget hlt
  obtain⟨cs,gs,ob,fo,hA,hO,hM⟩:=HR.out
  have hst:=Kstep_S (b:=K.p) (cs:=cs) (most:=most) (steps:=(i:Int))
  have b1:=hA.m
  have b2:=hA.fr
  have c29:=hM.stop
  have hl38:=hM.len
  have l29:29+1≤cs.length:=by omega
  have f1:S K.p≠.free:=by rw[b1];simp
  have f2:S K.a≠.free:=by rw[b2];simp
  have npa:¬ K.a=K.p:=neC b2 b1 (by simp)
  have HA:=Lib.hid hA
  have HO:=Lib.hid hO
  have HM:=Lib.hid hM
  by_cases hms:(i:Int)<most
  ·have wst:=fun s hb=>Kstep_S s K.p cs most (i:Int) hb hM (by omega) (by omega)
   rw[decide_eq_true hms]at wst
   have hsc:stepC cs most (i:Int)=cs.set 28 (.int .i64 ((i:Int)+1)):=if_pos hms
   simp only[hsc]at wst
   obtain⟨k1,k2,k3⟩:=runK_le K.V K.F l i
   have hkk:=runK_k K.V K.F l i hi
   have HN:=Lib.hid (runK_succ (V:=K.V) (F:=K.F) hx)
   cases x with
   |nw v=>
    have hsx:=codes_nw hx
    rw[codeC_nw,← hkk]at hsx
    have wone:=fun(S':St) (cs':List VV) h=>Kone_nw S' K [77,97,105,110,58,58,109,97,105,110] bd cd cs' (runK K.V K.F l i).env (runK K.V K.F l i).k (lsR (runK K.V K.F l i)) gs ob fo h v (numK K.V v) (numK_lk HOK.out.nv v) (HOK.out.nw i v hx).2 (by omega) (by decide) (HOK.out.nw i v hx).1 (by show (runK K.V K.F l i).seen.length<_;omega) (by show (runK K.V K.F l i).seen.length<_;omega)
    simp only[codeC_nw]at wone
    have HE:Hid (exK K.V K.F (runK K.V K.F l i) (.nw v)=⟨ptA v (runK K.V K.F l i).k (runK K.V K.F l i).env,(runK K.V K.F l i).k+1,putK [(numK K.V v:Int),((runK K.V K.F l i).k:Int)] (runK K.V K.F l i).seen,(runK K.V K.F l i).heap⟩):=Lib.hid rfl
    clear hx hA hO hM hkk hsc
    generalize runK K.V K.F l i=q at *
    (repeat'(first|refine Ctl ?_|((with_reducible refine Kof.use hK ?_);clear hK hE K E)|((with_reducible refine Eof.use hE ?_);(try clear hK hE K E))|((with_reducible refine W_cond (fun h=>?_) (fun h=>?_))<;>(try(exfalso;first|assumption|omega)))|((first|(with_reducible first|refine G_region fun K E hK hE=>?_|refine call_ret can18 ((wst _ z_sl)) ?_|refine W_if ?_|refine W_ifS ?_|refine W_and ?_)|((with_reducible refine call_ex can20 ((wone _ _ (HA.out.boxst (by assumption) (by omega) (by omega)))) (fun a h=>?_)))|((with_reducible refine W_fresh (fun b hb=>?_));(repeat(obtain⟨_,hb⟩:=hb));(try((obtain⟨_,_⟩:=nef hb f1);(obtain⟨_,_⟩:=nef hb f2))))|((with_reducible refine W_gd (fun h=>?_) (fun h=>?_))<;>(try(exfalso;first|assumption|omega))))<;>(try simp(disch:=first|assumption|omega) only[go_sem,seval,hcl,hsx, *]))))
    obtain⟨cs',g1,g4,o,f,r1,r2,r3⟩:=h
    rw[lsR_nw]at r1 r2
    refine⟨m - 1,by omega,i+1,by omega,by omega,by omega,Lib.hid ⟨cs',_,_,_,by rw[HN.out,HE.out];exact r1,?_,HM.out.up.of r1.len r3⟩,z_sl,z_sl,z_sl,z_sl,z_sl⟩
    rw[HN.out,HE.out]
    exact(HO.out.trans (KAt.boxst_out (by assumption))).trans r2
   |st d s f=>
    have hsx:=codes_st hx
    rw[codeC_st]at hsx
    obtain⟨⟨a,ha⟩,⟨b,hb0⟩,hfn⟩:=HOK.out.st i d s f hx
    have hfl:(lkA f (plcP K.F)).getD 0=(((ixT f K.F).getD 0:Nat):Int):=by rw[plcP_eq HOK.out.nf,plcA_lk]
    have hak:=hA.ek _ (lkA_memK ha)
    have hbk:=hA.ek _ (lkA_memK hb0)
    have wone:=fun(S':St) (cs':List VV) h=>Kone_st S' K [77,97,105,110,58,58,109,97,105,110] bd cd cs' (runK K.V K.F l i).env (runK K.V K.F l i).k (lsR (runK K.V K.F l i)) gs ob fo h d s f a b _ ha hb0 hak hbk hfl hfn (by omega) (by show (runK K.V K.F l i).heap.length<_;omega)
    simp only[codeC_st]at wone
    have HE:Hid (exK K.V K.F (runK K.V K.F l i) (.st d s f)=⟨(runK K.V K.F l i).env,(runK K.V K.F l i).k,(runK K.V K.F l i).seen,putK [(a:Int),(((ixT f K.F).getD 0:Nat):Int),(b:Int)] (runK K.V K.F l i).heap⟩):=Lib.hid (exK_st ha hb0)
    clear hx hA hO hM hkk hsc ha hb0 hfl hfn hak hbk
    generalize runK K.V K.F l i=q at *
    (repeat'(first|refine Ctl ?_|((with_reducible refine Kof.use hK ?_);clear hK hE K E)|((with_reducible refine Eof.use hE ?_);(try clear hK hE K E))|((with_reducible refine W_cond (fun h=>?_) (fun h=>?_))<;>(try(exfalso;first|assumption|omega)))|((first|(with_reducible first|refine G_region fun K E hK hE=>?_|refine call_ret can18 ((wst _ z_sl)) ?_|refine W_if ?_|refine W_ifS ?_|refine W_and ?_)|((with_reducible refine call_ex can20 ((wone _ _ (HA.out.boxst (by assumption) (by omega) (by omega)))) (fun a h=>?_)))|((with_reducible refine W_fresh (fun b hb=>?_));(repeat(obtain⟨_,hb⟩:=hb));(try((obtain⟨_,_⟩:=nef hb f1);(obtain⟨_,_⟩:=nef hb f2))))|((with_reducible refine W_gd (fun h=>?_) (fun h=>?_))<;>(try(exfalso;first|assumption|omega))))<;>(try simp(disch:=first|assumption|omega) only[go_sem,seval,hcl,hsx, *]))))
    obtain⟨cs',g2,r1,r2,r3⟩:=h
    rw[lsR_st]at r1 r2
    refine⟨m - 1,by omega,i+1,by omega,by omega,by omega,Lib.hid ⟨cs',_,_,_,by rw[HN.out,HE.out];exact r1,?_,HM.out.up.of r1.len r3⟩,z_sl,z_sl,z_sl,z_sl,z_sl⟩
    rw[HN.out,HE.out]
    exact(HO.out.trans (KAt.boxst_out (by assumption))).trans r2
  ·have wst:=fun s hb=>Kstep_S s K.p cs most (i:Int) hb hM (by omega) (by omega)
   rw[decide_eq_false hms]at wst
   have hsc:stepC cs most (i:Int)=cs.set 29 (.bool true):=if_neg hms
   simp only[hsc]at wst
   have hmi:min l.length most.toNat=i:=by omega
   have hdt:decide (most<(l.length:Int))=true:=decide_eq_true (by omega)
   obtain⟨y,hy⟩:=uget (l:=codesN l l.length) (i:=i) (by omega)
   have hy11:∃c0 c1 c2 c3 c4 c5 c6 c7 c8 c9 c10,y=[c0,c1,c2,c3,c4,c5,c6,c7,c8,c9,c10]∧c0.one=true∧c1.one=true∧c2.one=true∧c3.one=true∧c4.one=true∧c5.one=true∧c6.one=true∧c7.one=true∧c8.one=true∧c9.one=true∧c10.one=true:=by
    cases x with
    |nw v=>rw[codes_nw hx,codeC_nw]at hy;injection hy with hy;exact⟨_,_,_,_,_,_,_,_,_,_,_,hy.symm,rfl,rfl,rfl,rfl,rfl,rfl,rfl,rfl,rfl,rfl,rfl⟩
    |st d s f=>rw[codes_st hx,codeC_st]at hy;injection hy with hy;exact⟨_,_,_,_,_,_,_,_,_,_,_,hy.symm,rfl,rfl,rfl,rfl,rfl,rfl,rfl,rfl,rfl,rfl,rfl⟩
   obtain⟨c0,c1,c2,c3,c4,c5,c6,c7,c8,c9,c10,rfl,o0,o1,o2,o3,o4,o5,o6,o7,o8,o9,o10⟩:=hy11
   clear hx hA hO hM hsc
   (repeat'(first|refine Ctl ?_|((with_reducible refine Kof.use hK ?_);clear hK hE K E)|((with_reducible refine Eof.use hE ?_);(try clear hK hE K E))|((with_reducible refine W_cond (fun h=>?_) (fun h=>?_))<;>(try(exfalso;first|assumption|omega)))|((first|(with_reducible first|refine G_region fun K E hK hE=>?_|refine call_ret can18 ((wst _ z_sl)) ?_|refine W_if ?_|refine W_ifS ?_|refine W_and ?_)|((with_reducible refine W_fresh (fun b hb=>?_));(repeat(obtain⟨_,hb⟩:=hb));(try((obtain⟨_,_⟩:=nef hb f1);(obtain⟨_,_⟩:=nef hb f2))))|((with_reducible refine W_gd (fun h=>?_) (fun h=>?_))<;>(try(exfalso;first|assumption|omega))))<;>(try simp(disch:=first|assumption|omega) only[go_sem,seval,hcl,hy, *]))))
   all_goals(first|refine W_ret res10 hQ ?_|refine W_norm res10 hQ ?_|refine G_pan hQ ?_)
   all_goals refine⟨_,_,Wk.refl _,Fg.refl _,_,rfl,rfl,?_⟩
   all_goals rw[hmi,hdt]
   all_goals exact⟨_,gs,ob,fo,HA.out.boxst (by assumption) (by omega) (by omega),HO.out.trans (KAt.boxst_out (by assumption)),HM.out.halt⟩
 ·obtain rfl:i=l.length:=by omega
  have hmi:min l.length most.toNat=l.length:=by omega
  have hdt:decide (most<(l.length:Int))=false:=decide_eq_false (by omega)
  (repeat'(first|refine Ctl ?_|((with_reducible refine Kof.use hK ?_);clear hK hE K E)|((with_reducible refine Eof.use hE ?_);(try clear hK hE K E))|((with_reducible refine W_cond (fun h=>?_) (fun h=>?_))<;>(try(exfalso;first|assumption|omega)))|((first|(with_reducible first|refine G_region fun K E hK hE=>?_|refine W_if ?_|refine W_ifS ?_|refine W_and ?_)|((with_reducible refine W_fresh (fun b hb=>?_));(repeat(obtain⟨_,hb⟩:=hb)))|((with_reducible refine W_gd (fun h=>?_) (fun h=>?_))<;>(try(exfalso;first|assumption|omega))))<;>(try simp(disch:=first|assumption|omega) only[go_sem,seval,hcl, *]))))
  all_goals(first|refine W_ret res10 hQ ?_|refine W_norm res10 hQ ?_|refine G_pan hQ ?_)
  all_goals exact⟨_,S,Wk.refl _,Fg.refl _,S,rfl,rfl,by rw[hmi,hdt];exact HR.out⟩
end Go.Proofs.YtadbggfpnhkmbaaGreat
namespace Go.Proofs.YtadbggfpnhkmbaaGreat
open Go.RowKit
def plF (i:Nat):List Int:=[((1+i:Nat):Int),(i:Int)]
def plG (i:Nat):List Int:=[(i:Int),0,((i+1:Nat):Int)]
theorem rise_map {f:Nat→List Int}(h:∀i j,i<j→cmpZ (f i) (f j)<0):∀n,Rising ((List.range n).map f):=fun n=>by
 unfold Rising
 rw[List.pairwise_map]
 exact List.pairwise_lt_range.imp fun {a b} hab=>h a b hab
theorem plF_rise (n:Nat):Rising ((List.range n).map plF):=rise_map (fun i j h=>by
 simp only[plF,cmpZ]
 rw[if_pos (by omega)];decide) n
theorem plG_rise (n:Nat):Rising ((List.range n).map plG):=rise_map (fun i j h=>by
 simp only[plG,cmpZ]
 rw[if_pos (by omega)];decide) n
theorem plF_sort (n:Nat):sortR ((List.range n).map plF)=(List.range n).map plF:=(sortR_uniq (plF_rise n) fun r=>Iff.rfl).symm
theorem plG_sort (n:Nat):sortR ((List.range n).map plG)=(List.range n).map plG:=(sortR_uniq (plG_rise n) fun r=>Iff.rfl).symm
def plP (k i:Nat):Nat:=min i (plN k)
def plQ (k i:Nat):Nat:=min (i - 1) (plB k)
theorem plP_yes {k i:Nat}(h:2 * i<k+1)(h2:0<i∨0<k):(List.range (plP k (i+1))).map plF=(List.range (plP k i)).map plF++[plF i]:=by
 have e1:plP k i=i:=by unfold plP plN;split<;>omega
 have e2:plP k (i+1)=i+1:=by unfold plP plN;split<;>omega
 rw[e1,e2,List.range_succ,List.map_append];rfl
theorem plP_no {k i:Nat}(h:¬ (2 * i<k+1∧(0<i∨0<k))):plP k (i+1)=plP k i:=by
 unfold plP plN;split<;>omega
theorem plQ_yes {k i:Nat}(h:0<i)(h2:2 * i<k):(List.range (plQ k (i+1))).map plG=(List.range (plQ k i)).map plG++[plG (i - 1)]:=by
 have e1:plQ k i=i - 1:=by unfold plQ plB;omega
 have e2:plQ k (i+1)=i - 1+1:=by unfold plQ plB;omega
 rw[e1,e2,List.range_succ,List.map_append];rfl
theorem plQ_no {k i:Nat}(h:¬ (0<i∧2 * i<k)):plQ k (i+1)=plQ k i:=by
 unfold plQ plB;omega
theorem plP_end {n k:Nat}(h:k≤2 * n - 1)(hn:0<n):plP k n=plN k:=by unfold plP plN;split<;>omega
theorem plQ_end {n k:Nat}(h:k≤2 * n - 1)(hn:0<n):plQ k n=plB k:=by unfold plQ plB;omega
theorem plS_len (n:Nat):(plS n).length=2 * n - 1:=by simp[plS]
set_option maxHeartbeats 4000000 in
theorem Kplaces_S (l:List (List UInt8))(o:Own)(hl:l.length≤1000000)(t:St):SCalls Tryz.prog 8 [.lst (strs l) o] t fun w u=>∃q:Nat,w=.ret (.mp q)∧u=t.set q (.map (mpV encI (plcP l)))∧t q=.free:=by
 have hlen:=strsP_len (l:=l)
 refine G_enter Tryz.func8 rfl Tryz.ntmps8 rfl fun Q hQ hQe=>?_
 (repeat'(first|refine Ctl ?_|((with_reducible refine Kof.use hK ?_);clear hK hE K E)|((with_reducible refine Eof.use hE ?_);(try clear hK hE K E))|((with_reducible refine W_cond (fun h=>?_) (fun h=>?_))<;>(try(exfalso;first|assumption|omega)))|((first|(with_reducible first|refine G_region fun K E hK hE=>?_|refine W_if ?_|refine W_ifS ?_|refine W_and ?_)|((with_reducible refine W_fresh (fun b hb=>?_));(repeat(obtain⟨_,hb⟩:=hb))))<;>(try simp(disch:=first|assumption|omega) only[go_sem,seval,hlen, *]))))
 obtain⟨bm,hbm⟩:∃z,z=b:=⟨_,rfl⟩
 subst hbm
 refine G_loop (fun m env s'=>∃i:Nat,i≤l.length∧m+i=l.length∧s'=t.set bm (.map (mpV encI (plcP (l.take i))))∧env 3=.mp bm∧env 7=.lst (strs l) o∧env 8=.int .i64 l.length∧env 9=.int .i64 i) l.length ?_ ?_
 ·exact⟨_,Fg.refl _,0,by omega,by omega,rfl,z_sl,z_sl,z_sl,z_sl⟩
 rintro m env s' ⟨i,hi,hm,rfl,e3,e7,e8,e9⟩
 by_cases hlt:i<l.length
 ·obtain⟨x,hx⟩:=uget hlt
  have hsx:=strsP_at hx
  have HP:=Lib.hid (plcP_at hx)
  clear hx
  (repeat'(first|refine Ctl ?_|((with_reducible refine Kof.use hK ?_);clear hK hE K E)|((with_reducible refine Eof.use hE ?_);(try clear hK hE K E))|((with_reducible refine W_cond (fun h=>?_) (fun h=>?_))<;>(try(exfalso;first|assumption|omega)))|((first|(with_reducible first|refine G_region fun K E hK hE=>?_|refine W_if ?_|refine W_ifS ?_|refine W_and ?_)|((with_reducible refine W_fresh (fun b hb=>?_));(repeat(obtain⟨_,hb⟩:=hb))))<;>(try simp(disch:=first|assumption|omega) only[go_sem,seval,hlen,hsx, *]))))
  exact⟨_,Fg.refl _,m - 1,by omega,i+1,by omega,by omega,by rw[HP.out],z_sl,z_sl,z_sl,z_sl⟩
 ·obtain rfl:i=l.length:=by omega
  rw[List.take_length]
  (repeat'(first|refine Ctl ?_|((with_reducible refine Kof.use hK ?_);clear hK hE K E)|((with_reducible refine Eof.use hE ?_);(try clear hK hE K E))|((with_reducible refine W_cond (fun h=>?_) (fun h=>?_))<;>(try(exfalso;first|assumption|omega)))|((first|(with_reducible first|refine G_region fun K E hK hE=>?_|refine W_if ?_|refine W_ifS ?_|refine W_and ?_)|((with_reducible refine W_fresh (fun b hb=>?_));(repeat(obtain⟨_,hb⟩:=hb))))<;>(try simp(disch:=first|assumption|omega) only[go_sem,seval,hlen, *]))))
  all_goals(first|refine W_ret res8 hQ ?_|refine W_norm res8 hQ ?_|refine G_pan hQ ?_)
  all_goals exact⟨_,_,Wk.refl _,Fg.refl _,bm,rfl,rfl,(by assumption)⟩
set_option maxHeartbeats 4000000 in
theorem Knum0_S (p1 p2:Nat)(o:Own)(t:St):SRet Tryz.prog 9 [.lst [] o,.ptr p1 0,.ptr p2 0] t (.lst [] .full) t:=by
 refine G_enter Tryz.func9 rfl Tryz.ntmps9 rfl fun Q hQ hQe=>?_
 (repeat'(first|refine Ctl ?_|((with_reducible refine Kof.use hK ?_);clear hK hE K E)|((with_reducible refine Eof.use hE ?_);(try clear hK hE K E))|((with_reducible refine W_cond (fun h=>?_) (fun h=>?_))<;>(try(exfalso;first|assumption|omega)))|((first|(with_reducible first|refine G_region fun K E hK hE=>?_|refine W_if ?_|refine W_ifS ?_|refine W_and ?_)|((with_reducible refine W_fresh (fun b hb=>?_));(repeat(obtain⟨_,hb⟩:=hb)))|((with_reducible refine W_app (fun o2 ho=>?_));(repeat(obtain⟨_,ho⟩:=ho)))|((with_reducible refine W_appM (fun bM hM=>?_)))|((with_reducible refine W_app0 (fun bM hM=>?_))))<;>(try simp(disch:=first|assumption|omega) only[go_sem,seval, *]))))
 refine G_loop (fun m env s'=>s'=t∧env 7=.lst [] .full∧env 11=.lst [] o∧env 12=.int .i64 0∧env 13=.int .i64 0) 0 ?_ ?_
 ·exact⟨_,Fg.refl _,rfl,z_sl,z_sl,z_sl,z_sl⟩
 rintro m env s' ⟨rfl,e7,e11,e12,e13⟩
 (repeat'(first|refine Ctl ?_|((with_reducible refine Kof.use hK ?_);clear hK hE K E)|((with_reducible refine Eof.use hE ?_);(try clear hK hE K E))|((with_reducible refine W_cond (fun h=>?_) (fun h=>?_))<;>(try(exfalso;first|assumption|omega)))|((first|(with_reducible first|refine G_region fun K E hK hE=>?_|refine W_if ?_|refine W_ifS ?_|refine W_and ?_)|((with_reducible refine W_fresh (fun b hb=>?_));(repeat(obtain⟨_,hb⟩:=hb)))|((with_reducible refine W_app (fun o2 ho=>?_));(repeat(obtain⟨_,ho⟩:=ho)))|((with_reducible refine W_appM (fun bM hM=>?_)))|((with_reducible refine W_app0 (fun bM hM=>?_))))<;>(try simp(disch:=first|assumption|omega) only[go_sem,seval, *]))))
 all_goals(first|refine W_ret res9 hQ ?_|refine W_norm res9 hQ ?_|refine G_pan hQ ?_)
 all_goals(refine⟨_,_,Wk.of_eq ?_,?_,rfl,rfl⟩)
 all_goals first|rfl|(exact z_fg)
theorem stsC_slx (l:List Sl){j:Nat}{v:List UInt8}(h:l[j]?=some (.nw v)):(stsC (l.map Sl.stm))[j]?=some [.int .i64 1,.str v,.str [],.str [],.str [77,97,105,110],.lst [] .no,.lst [] .no,.lst [] .no]:=by rw[stsC_sl l h,stC_sl]
theorem stsC_sly (l:List Sl){j:Nat}{d s f:List UInt8}(h:l[j]?=some (.st d s f)):(stsC (l.map Sl.stm))[j]?=some [.int .i64 4,.str d,.str s,.str [],.str f,.lst [] .no,.lst [] .no,.lst [] .no]:=by rw[stsC_sl l h,stC_sl]
theorem codesN_nw {l:List Sl}{j:Nat}{v:List UInt8}(h:l[j]?=some (.nw v)):codesN l (j+1)=codesN l j++[[.int .i64 1,.str v,.str [],.str [],.str [77,97,105,110],.lst [] .no,.lst [] .no,.lst [] .no,.int .i64 (cntN (l.take j):Int),.lst [] .full,.lst [] .full]]:=by
 rw[codesN_succ,codeAt_eq h,numAt_nw h];unfold codeC;rw[stC_sl];rfl
theorem codesN_st {l:List Sl}{j:Nat}{d s f:List UInt8}(h:l[j]?=some (.st d s f)):codesN l (j+1)=codesN l j++[[.int .i64 4,.str d,.str s,.str [],.str f,.lst [] .no,.lst [] .no,.lst [] .no,.int .i64 0,.lst [] .full,.lst [] .full]]:=by
 rw[codesN_succ,codeAt_eq h,numAt_st h];unfold codeC;rw[stC_sl];rfl
theorem own_setK {T:St}{o:Own}{b:Nat}{c:Cell}{e:TypeId}{sz n:Nat}(h:NotOwn o b):(T.set b c).own o e sz n=(T.own o e sz n).set b c:=by
 cases o with
 |at_ q=>
  have hq:q≠b:=by intro hq;subst hq;simp[NotOwn]at h
  funext x
  show (T.set b c).set q _ x=(T.set q _).set b c x
  by_cases h1:x=q
  ·subst h1;rw[St.set_same,St.set_other _ _ hq,St.set_same]
  ·by_cases h2:x=b
   ·subst h2;rw[St.set_other _ _ h1,St.set_same,St.set_same]
   ·rw[St.set_other _ _ h1,St.set_other _ _ h2,St.set_other _ _ h2,St.set_other _ _ h1]
 |_=>rfl
set_option maxHeartbeats 8000000 in
theorem Knum_S (l:List Sl)(o:Own)(p1 p2:Nat)(t:St)(h1:t p1=.obj 3 [.int .i64 0])(hl:l.length≤1000) :
  SRet Tryz.prog 9 [.lst (stsC (l.map Sl.stm)) o,.ptr p1 0,.ptr p2 0] t (.lst (codesN l l.length) .no) (t.set p1 (.obj 3 [.int .i64 (cntN l:Int)])):=by
 have hlen:=stsC_sll l
 have hpf:t p1≠.free:=by rw[h1];simp
 have w0:=fun s=>Knum0_S p1 p2 .no s
 refine G_enter Tryz.func9 rfl Tryz.ntmps9 rfl fun Q hQ hQe=>?_
 (repeat'(first|refine Ctl ?_|((with_reducible refine Kof.use hK ?_);clear hK hE K E)|((with_reducible refine Eof.use hE ?_);(try clear hK hE K E))|((with_reducible refine W_cond (fun h=>?_) (fun h=>?_))<;>(try(exfalso;first|assumption|omega)))|((first|(with_reducible first|refine G_region fun K E hK hE=>?_|refine W_if ?_|refine W_ifS ?_|refine W_and ?_)|((with_reducible refine W_fresh (fun b hb=>?_));(repeat(obtain⟨_,hb⟩:=hb)))|((with_reducible refine W_app (fun o2 ho=>?_));(try simp(disch:=assumption) only[disown_set,disown_own,ownok_o,ownok_m,List.length_map,List.length_cons,List.length_nil,Nat.zero_add,hlen]at ho);(repeat(obtain⟨_,ho⟩:=ho)))|((with_reducible refine W_appM (fun bM hM=>?_)))|((with_reducible refine W_app0 (fun bM hM=>?_))))<;>(try simp(disch:=first|assumption|omega) only[go_sem,seval,hlen, *]))))
 refine G_loop (fun m env s'=>∃(i:Nat) (o2:Own),i≤l.length∧m+i=l.length∧NotOwn o2 p1∧OwnOk t o2 i∧s'=(t.own o2 86 11 i).set p1 (.obj 3 [.int .i64 (cntN (l.take i):Int)])∧env 1=.ptr p1 0∧env 2=.ptr p2 0∧env 7=.lst (codesN l i) o2∧env 11=.lst (stsC (l.map Sl.stm)) o∧env 12=.int .i64 l.length∧env 13=.int .i64 i) l.length ?_ ?_
 ·exact⟨_,Fg.refl _,0,.full,by omega,by omega,trivial,(show OwnOk t .full 0 from rfl),(St.set_self t p1 _ h1).symm,z_sl,z_sl,z_sl,z_sl,z_sl,z_sl⟩
 rintro m env s' ⟨i,o2,hi,hm,hN,hO,rfl,e1,e2,e7,e11,e12,e13⟩
 by_cases hlt:i<l.length
 ·obtain⟨x,hx⟩:=uget hlt
  have hc:=cntN_succ hx
  have hle:cntN (l.take i)≤1000:=by have:=cntN_le (l.take i);rw[List.length_take]at this;omega
  have hcl:(codesN l i).length=i:=codesN_len
  cases x with
  |nw v=>
   have hsx:=stsC_slx l hx
   have HT:=Lib.hid (codesN_nw hx)
   simp only[Sl.isN,if_true]at hc
   clear hx
   generalize cntN (l.take i)=c at *
   generalize codesN l i=CN at *
   (repeat'(first|refine Ctl ?_|((with_reducible refine Kof.use hK ?_);clear hK hE K E)|((with_reducible refine Eof.use hE ?_);(try clear hK hE K E))|((with_reducible refine W_cond (fun h=>?_) (fun h=>?_))<;>(try(exfalso;first|assumption|omega)))|((first|(with_reducible first|refine G_region fun K E hK hE=>?_|refine call_ret can9 (w0 _) ?_|refine W_if ?_|refine W_ifS ?_|refine W_and ?_)|((with_reducible refine W_fresh (fun b hb=>?_));(repeat(obtain⟨_,hb⟩:=hb));(try((try(rw[own_fr]at hb;obtain⟨hob,hb⟩:=hb)))))|((with_reducible refine W_app (fun o2 ho=>?_));(try simp(disch:=assumption) only[disown_set,disown_own,ownok_o,ownok_m,List.length_map,List.length_cons,List.length_nil,Nat.zero_add,hlen,hsx,hcl]at ho);(repeat(obtain⟨_,ho⟩:=ho)))|((with_reducible refine W_appM (fun bM hM=>?_)))|((with_reducible refine W_app0 (fun bM hM=>?_))))<;>(try simp(disch:=first|assumption|omega) only[go_sem,seval,hlen,hsx,hcl, *]))))
   exact⟨(t.own o2 86 11 (i+1)).set p1 (.obj 3 [.int .i64 ((c+1:Nat):Int)]),z_fg,m - 1,by omega,i+1,o2,by omega,by omega,by assumption,ho,by rw[hc],z_sl,z_sl,by rw[HT.out];((try simp(disch:=first|assumption|omega) only[go_sem,seval, *])<;>first|rfl|omega),z_sl,z_sl,z_sl⟩
  |st d s f=>
   have hsx:=stsC_sly l hx
   have HT:=Lib.hid (codesN_st hx)
   simp only[Sl.isN]at hc
   clear hx
   generalize cntN (l.take i)=c at *
   generalize codesN l i=CN at *
   (repeat'(first|refine Ctl ?_|((with_reducible refine Kof.use hK ?_);clear hK hE K E)|((with_reducible refine Eof.use hE ?_);(try clear hK hE K E))|((with_reducible refine W_cond (fun h=>?_) (fun h=>?_))<;>(try(exfalso;first|assumption|omega)))|((first|(with_reducible first|refine G_region fun K E hK hE=>?_|refine call_ret can9 (w0 _) ?_|refine W_if ?_|refine W_ifS ?_|refine W_and ?_)|((with_reducible refine W_fresh (fun b hb=>?_));(repeat(obtain⟨_,hb⟩:=hb));(try((try(rw[own_fr]at hb;obtain⟨hob,hb⟩:=hb)))))|((with_reducible refine W_app (fun o2 ho=>?_));(try simp(disch:=assumption) only[disown_set,disown_own,ownok_o,ownok_m,List.length_map,List.length_cons,List.length_nil,Nat.zero_add,hlen,hsx,hcl]at ho);(repeat(obtain⟨_,ho⟩:=ho)))|((with_reducible refine W_appM (fun bM hM=>?_)))|((with_reducible refine W_app0 (fun bM hM=>?_))))<;>(try simp(disch:=first|assumption|omega) only[go_sem,seval,hlen,hsx,hcl, *]))))
   simp only[Bool.false_eq_true,if_false,Nat.add_zero]at hc
   exact⟨(t.own o2 86 11 (i+1)).set p1 (.obj 3 [.int .i64 (c:Int)]),z_fg,m - 1,by omega,i+1,o2,by omega,by omega,by assumption,ho,by rw[hc],z_sl,z_sl,by rw[HT.out];((try simp(disch:=first|assumption|omega) only[go_sem,seval, *])<;>first|rfl|omega),z_sl,z_sl,z_sl⟩
 ·obtain rfl:i=l.length:=by omega
  rw[List.take_length]at *
  (repeat'(first|refine Ctl ?_|((with_reducible refine Kof.use hK ?_);clear hK hE K E)|((with_reducible refine Eof.use hE ?_);(try clear hK hE K E))|((with_reducible refine W_cond (fun h=>?_) (fun h=>?_))<;>(try(exfalso;first|assumption|omega)))|((first|(with_reducible first|refine G_region fun K E hK hE=>?_|refine W_if ?_|refine W_ifS ?_|refine W_and ?_)|((with_reducible refine W_fresh (fun b hb=>?_));(repeat(obtain⟨_,hb⟩:=hb)))|((with_reducible refine W_app (fun o2 ho=>?_));(try simp(disch:=assumption) only[disown_set,disown_own,ownok_o,ownok_m,List.length_map,List.length_cons,List.length_nil,Nat.zero_add,hlen]at ho);(repeat(obtain⟨_,ho⟩:=ho)))|((with_reducible refine W_appM (fun bM hM=>?_)))|((with_reducible refine W_app0 (fun bM hM=>?_))))<;>(try simp(disch:=first|assumption|omega) only[go_sem,seval,hlen, *]))))
  all_goals(first|refine W_ret res9 hQ ?_|refine W_norm res9 hQ ?_|refine G_pan hQ ?_)
  all_goals exact⟨_,t.set p1 (.obj 3 [.int .i64 (cntN l:Int)]),Wk.lst _ _,(by rw[← own_setK hN];exact Fg.own (by rw[ownok_o];exact⟨hN,hO⟩)),rfl,rfl⟩
theorem atC_get {x:List Cls}{n:List UInt8}{k:Nat}(h:atC x n=some k):∃c,x[k]?=some c∧c.nm=n:=by
 have:=ixT_get h
 rw[List.getElem?_map]at this
 obtain⟨c,h1,h2⟩:=Option.map_eq_some_iff.1 this
 exact⟨c,h1,h2⟩
section
variable {x y : List Cls} (hp : x.Perm y) (hn : (x.map (·.nm)).Nodup)
include hp hn
end
section
variable {x y : List Cls} (hp : x.Perm y) (hn : (x.map (·.nm)).Nodup)
include hp hn
end
structure OwnI (q:Nms):Prop where
 lv:q.owner.length=q.vars.length
 lh:q.home.length=q.calls.length
 ov:∀(i k:Nat) (v:List UInt8),q.owner[i]?=some k→q.vars[i]?=some v→∃t w,q.mths[k]?=some t∧v=t++46::w∧w≠[]
 os:∀(i a b:Nat),q.owner[i]?=some a→q.owner[i+1]?=some b→a≤b
 oc:∀(i k:Nat) (v:List UInt8),q.home[i]?=some k→q.calls[i]?=some v→q.mths[k]?=some v
 hs:∀(i a b:Nat),q.home[i]?=some a→q.home[i+1]?=some b→a≤b
 ot:∀k,k∈q.owner→k<q.mths.length
 ht:∀k,k∈q.home→k<q.mths.length
 nv:∀(i:Nat) (u v:List UInt8),q.vars[i]?=some u→q.vars[i+1]?=some v→u≠v
def plFl (n:Nat):List (List UInt8):=if 1<n then [[102]] else []
theorem pl_fields:∀n,n<41→0<n→(namesN (slX (plS n))).fields=plFl n:=by decide +kernel
theorem plR_run2 {n:Nat}(hn:n≤40)(h0:0<n)(k:Nat)(hk:k≤2 * n - 1):runK (plU n) (plFl n) (plS n) k=plR k:=by
 unfold plFl
 by_cases h:1<n
 ·rw[if_pos h];exact plR_run hn k hk
 ·obtain rfl:n=1:=by omega
  rw[if_neg h,← plR_run hn k hk]
  match k,hk with
  |0,_=>rfl
  |1,_=>rfl
  |k+2,hk=>omega
theorem plU_nodup {n:Nat}(hn:n≤40):(plU n).Nodup:=by
 unfold plU plW
 rw[List.map_cons,List.nodup_cons]
 constructor
 ·rw[List.map_map]
  intro h
  obtain⟨j,hj,e⟩:=List.mem_map.1 h
  rw[List.mem_range]at hj
  exact(plV_ret j (by omega)).1 (List.append_cancel_left e)
 ·rw[List.map_map]
  refine List.pairwise_map.2 ?_
  refine List.Pairwise.imp_of_mem (fun {a b} ha hb hab e=>hab ?_) List.nodup_range
  rw[List.mem_range]at ha hb
  exact plV_inj _ (by omega) _ (by omega) (List.append_cancel_left e)
theorem plS_at {n m:Nat}{x:Sl}(h:(plS n)[m]?=some x):m<2 * n - 1∧plAt m=x:=by
 unfold plS at h
 rw[List.getElem?_map]at h
 obtain⟨j,hj,e⟩:=Option.map_eq_some_iff.1 h
 have hl:=(List.getElem?_eq_some_iff.1 hj).1
 rw[List.length_range]at hl
 rw[List.getElem?_range hl]at hj
 injection hj with hj
 subst hj
 exact⟨hl,e⟩
theorem pl_ok {n:Nat}(hn:n≤40)(h0:0<n):SlOk (plU n) (plFl n) (plS n):=by
 refine⟨by rw[plS_len];omega,plU_nodup hn,by unfold plFl;split<;>simp,fun m v h=>?_,fun m d s f h=>?_⟩
 ·obtain⟨hm,he⟩:=plS_at h
  unfold plAt at he
  split at he
  ·injection he with he
   subst he
   refine⟨by simp[plV],?_⟩
   rw[plU_num hn (by omega)]
   omega
  ·cases he
 ·obtain⟨hm,he⟩:=plS_at h
  rw[plR_run2 hn h0 m (by omega)]
  unfold plAt at he
  split at he
  ·cases he
  ·rename_i hc
   injection he with h1 h2 h3
   subst h1;subst h2;subst h3
   have hm0:m≠0:=fun e=>hc (.inr e)
   have hev:m % 2=0:=by have:¬ m % 2=1:=fun e=>hc (.inl e);omega
   have hN:plN m=m / 2+1:=by unfold plN;rw[if_neg hm0]
   refine⟨⟨m / 2 - 1,?_⟩,⟨m / 2,?_⟩,?_⟩
   ·exact pl_lk (by rw[hN];omega) (by rw[hN];omega)
   ·exact pl_lk (by rw[hN];omega) (by rw[hN];omega)
   ·unfold plFl
    rw[if_pos (by omega)]
    decide
theorem stms_ok:∀(l:List Sl),(∀x,x∈l→StmOk x.stm)→StmsOk (l.map Sl.stm)
 |[],_=>by simp[StmsOk]
 |x::l,h=>by
  rw[List.map_cons]
  simp only[StmsOk]
  exact⟨h x (by simp),stms_ok l fun y hy=>h y (by simp[hy])⟩
theorem sl_srcok {l:List Sl}(hl:l.length≤1000)(h:∀x,x∈l→StmOk x.stm):SrcOk (slX l):=by
 have hb:=stms_ok l h
 have h1:((l.map Sl.stm).length:Nat)≤140737488355328:=by rw[List.length_map];omega
 refine⟨by simp[slX],fun c hc=>?_⟩
 simp only[slX,List.mem_singleton]at hc
 subst hc
 refine⟨by simp,by simp,by simp,fun m hm=>?_⟩
 simp only[List.mem_singleton]at hm
 subst hm
 exact⟨by simp,⟨by simp,fun x hx=>by cases hx⟩,h1,hb⟩
theorem pl_srcok {n:Nat}(hn:n≤40):SrcOk (slX (plS n)):=by
 refine sl_srcok (by rw[plS_len];omega) fun x hx=>?_
 obtain⟨m,hm⟩:=List.mem_iff_getElem?.1 hx
 obtain⟨_,rfl⟩:=plS_at hm
 unfold plAt
 split<;>simp[Sl.stm,StmOk,StmsOk,TxOk,plV]
theorem pl_seen (k:Nat):(plR k).seen=(List.range (plN k)).map plF∧(plR k).heap=(List.range (plB k)).map plG:=⟨rfl,rfl⟩
end Go.Proofs.YtadbggfpnhkmbaaGreat
