/- Walks of functions that the claim reaches, and plain facts of them. Conditions: those in the statements. -/
import Derived.Test.YtohnaepcgnbaiaaGreatDoorJkHej
import Derived.Test.YtohnaepcgnbaiaaGreatDoorJkSdj
import Derived.Test.YtohnaepcgnbaiaaGreatDoorJkRwj
import Derived.Laws.AppendOwnNone
set_option linter.unusedSimpArgs false
set_option linter.unusedVariables false
set_option maxRecDepth 100000
namespace Go.Proofs.YtohnaepcgnbaiaaGreatDoor
open Go.RowKit
attribute [-go_sem] bJ cX bH bG
def vN (o:List (List Nat))(x:Nat->Bool)(k:Nat):Nat:=bX (o.getD k []) x
def Tells (o:List (List Nat))(ks:List Nat)(S:List Nat->Prop)(g:(Nat->Bool)->Bool):Prop:=∀x,g x=true↔S (ks.map (vN o x))
theorem zy {o:List (List Nat)}{ks:List Nat}{x y:Nat->Bool}(h:∀v,v∈aj o ks->x v=y v):ks.map (vN o x)=ks.map (vN o y):=
 List.map_congr_left fun k hk=>cO fun v hv=>h v (List.mem_flatMap.2 ⟨k,hk,hv⟩)
theorem Tells.dep {o:List (List Nat)}{ks:List Nat}{S:List Nat->Prop}{g:(Nat->Bool)->Bool}(h:Tells o ks S g):DepF (aj o ks) g:=fun x y e=>by
 rw[Bool.eq_iff_iff,h x,h y,zy e]
theorem Tells.congr {o:List (List Nat)}{ks:List Nat}{S S':List Nat->Prop}{g:(Nat->Bool)->Bool}(h:Tells o ks S g)(hs:∀r,r.length=ks.length->(S r↔S' r)):Tells o ks S' g:=fun x=>(h x).trans (hs _ (by simp))
theorem kS {o:List (List Nat)}{x:Nat->Bool}:∀{ks t:List Nat},t.length=ks.length->(gZ o ks t x=true↔ks.map (vN o x)=t)
 |[],[],_=>by simp[gZ]
 |[],_::_,h=>by simp at h
 |_::_,[],h=>by simp at h
 |k::ks,v::t,h=>by
  have ih:=kS (o:=o) (x:=x) (ks:=ks) (t:=t) (by simpa using h)
  simp only[gZ,List.zip_cons_cons,List.all_cons,Bool.and_eq_true,decide_eq_true_eq,List.map_cons,List.cons.injEq]at ih ⊢
  exact and_congr Iff.rfl ih
def orK (o:List (List Nat))(ks:List Nat)(T:List (List Nat))(x:Nat->Bool):Bool:=T.any fun t=>gZ o ks t x
theorem Ex {o:List (List Nat)}{ks:List Nat}{T:List (List Nat)}{t:List Nat}:(fun x=>orK o ks T x || gZ o ks t x)=orK o ks (T++[t]):=by
 funext x
 simp[orK]
theorem qj {o:List (List Nat)}{ks:List Nat}{T:List (List Nat)}(h:∀t,t∈T->t.length=ks.length):Tells o ks (·∈T) (orK o ks T):=fun x=>by
 simp only[orK,List.any_eq_true]
 constructor
 ·rintro⟨t,ht,e⟩
  rw[(kS (h t ht)).1 e];exact ht
 ·intro ht
  exact⟨_,ht,(kS (h _ ht)).2 rfl⟩
theorem sX {by_:Nat->Nat}:∀{l l':List Nat} {x:Nat->Bool},l.map by_=l'->bX l (fun v=>x (by_ v))=bX l' x
 |[],_,x,h=>by subst h;rfl
 |v::l,_,x,h=>by
  subst h
  simp only[List.map_cons,bX]
  rw[sX (l:=l) (l':=l.map by_) (x:=x) rfl]
theorem Tells.ren {o:List (List Nat)}{ks ks':List Nat}{S:List Nat->Prop}{g:(Nat->Bool)->Bool}{by_:Nat->Nat}(h:Tells o ks S g)(hb:ks.map (fun k=>(o.getD k []).map by_)=ks'.map fun k=>o.getD k []):Tells o ks' S (rnF by_ g):=fun x=>by
 have e:ks.map (vN o fun v=>x (by_ v))=ks'.map (vN o x):=by
  have h1:ks.map (vN o fun v=>x (by_ v))=(ks.map fun k=>(o.getD k []).map by_).map fun l=>bX l x:=by
   rw[List.map_map]
   exact List.map_congr_left fun k _=>sX rfl
  rw[h1,hb,List.map_map]
  rfl
 rw[<- e]
 exact h _
theorem Tells.or {o:List (List Nat)}{ks:List Nat}{S S':List Nat->Prop}{f g:(Nat->Bool)->Bool}(h:Tells o ks S f)(h':Tells o ks S' g):Tells o ks (fun r=>S r\/S' r) (fun x=>f x || g x):=fun x=>by
 rw[Bool.or_eq_true,h x,h' x]
theorem Tells.diff {o:List (List Nat)}{ks:List Nat}{S S':List Nat->Prop}{f g:(Nat->Bool)->Bool}(h:Tells o ks S f)(h':Tells o ks S' g):Tells o ks (fun r=>S r/\¬ S' r) (fun x=>f x && !g x):=fun x=>by
 rw[Bool.and_eq_true,h x,Bool.not_eq_true',<- Bool.not_eq_true,h' x]
theorem uk {n:Nat}{ds:List (List UInt8×Nat)}{o:List (List Nat)}(hD:DOk n ds o){ks:List Nat}(hks:∀k,k∈ks->k<ds.length)(hnd:ks.Nodup){S:List Nat->Prop}{g:(Nat->Bool)->Bool}(hg:Tells o ks S g){R:List (List Int)}(hR:Rising R)
  (hm:∀r:List Int,r∈R↔∃t:List Nat,S t/\t.length=ks.length/\(∀p,p∈ks.zip t->p.2<2 ^ (o.getD p.1 []).length)/\r=eE t):dO (gq (treeT n g) o ks)=R:=by
 symm
 refine nr hR fun r=>?_
 rw[CH hD hks hnd hg.dep,hm]
 constructor
 ·rintro⟨t,hS,hl,hlt,rfl⟩
  have hN:=cr hD hnd hks
  obtain⟨x,hx⟩:=AK ((ks.zip t).map fun p=>(o.getD p.1 [],p.2)) (by
   have e:((ks.zip t).map fun p=>(o.getD p.1 [],p.2)).map (·.1)=ks.map fun k=>o.getD k []:=by
    rw[List.map_map]
    show (ks.zip t).map (fun p=>o.getD p.1 [])=_
    have e2:=List.map_map (f:=Prod.fst) (g:=fun k=>o.getD k []) (l:=ks.zip t)
    rw[List.map_fst_zip (by omega)]at e2
    exact e2.symm
   rw[e];exact hN) (fun p hp=>by
   obtain⟨q,hq,rfl⟩:=A_.1 hp
   exact hlt q hq)
  have e:ks.map (vN o x)=t:=by
   apply List.ext_getElem (by simp[hl])
   intro i h1 h2
   simp at h1
   have:=hx (o.getD ks[i] [],t[i]) (A_.2 ⟨(ks[i],t[i]),by
    rw[List.mem_iff_getElem]
    exact⟨i,by simp;omega,by simp⟩,rfl⟩)
   simpa [vN]using this
  refine⟨x,(hg x).2 (by rw[e];exact hS),?_⟩
  rw[<- e,eE,List.map_map]
  rfl
 ·rintro⟨x,hx,rfl⟩
  refine⟨ks.map (vN o x),(hg x).1 hx,by simp,fun p hp=>?_,by rw[eE,List.map_map];rfl⟩
  rw[List.mem_iff_getElem]at hp
  obtain⟨i,hi,rfl⟩:=hp
  simp[vN]
  exact jO _ _
end Go.Proofs.YtohnaepcgnbaiaaGreatDoor
namespace Go.Proofs.YtohnaepcgnbaiaaGreatDoor
open Go.RowKit
attribute [-go_sem] bJ cX bH bG
theorem iP (l:List (List Int))(r:List Int)(o1 o2:Own)(hl:dL l)(hr:r.length<=1000000000)(t:St):SRet Tryz.prog 15 [.lst (bh l) o1,.lst (aI r) o2] t (.lst (bh (putRow l r)) .no) t:=by
 refine SCalls.wk (B6 l r o1 hl hr t) rfl fun j x y hx hy=>?_
 match j with
 |0=>simp at hx hy;subst hx;subst hy;exact Wk.refl _
 |1=>simp at hx hy;subst hx;subst hy;exact Wk.lst _ _
 |j+2=>simp at hx
abbrev Tri:=Int×Int×Int
end Go.Proofs.YtohnaepcgnbaiaaGreatDoor
namespace Go.Proofs.YtohnaepcgnbaiaaGreatDoor
open Go.RowKit
attribute [-go_sem] bJ cX bH bG
def lo2 (a:Int):Nat:=jw 2 a
theorem vd (a:Int):lo2 a<4:=Fc 2 a
theorem fA (a:Int):bF .and .i64 a 3=some (.int .i64 ((lo2 a:Nat):Int)):=by
 have h:=rI (w:=2) (by omega) a
 have e:IntKind.i64.wrap (((2 ^ 2:Nat):Int) - 1)=3:=by decide
 rwa [e]at h
theorem nY {T:List (List Nat)}{r:List Int}:r∈br T↔∃t,t∈T/\r=eE t:=by
 rw[br,sK];simp
theorem pZ (T:List (List Nat)):Rising (br T):=lP Rising.nil
theorem CI {n:Nat}{ds:List (List UInt8×Nat)}{o:List (List Nat)}(hD:DOk n ds o){ks:List Nat}(hks:∀k,k∈ks->k<ds.length)(ho:∀k,k∈ks->(o.getD k []).length=2)(hnd:ks.Nodup){T:List (List Nat)}{g:(Nat->Bool)->Bool}(hg:Tells o ks (·∈T) g)
  (hT:∀t,t∈T->t.length=ks.length/\∀v,v∈t->v<4):dO (gq (treeT n g) o ks)=br T:=by
 refine uk hD hks hnd hg (pZ T) fun r=>?_
 rw[nY]
 constructor
 ·rintro⟨t,ht,rfl⟩
  refine⟨t,ht,(hT t ht).1,fun p hp=>?_,rfl⟩
  rw[ho _ (List.of_mem_zip hp).1]
  exact(hT t ht).2 _ (List.of_mem_zip hp).2
 ·rintro⟨t,ht,_,_,e⟩
  exact⟨t,ht,e⟩
theorem Tells.same {o:List (List Nat)}{ks:List Nat}{S S':List Nat->Prop}{f g:(Nat->Bool)->Bool}(h:Tells o ks S f)(h':Tells o ks S' g)(hs:∀r,r.length=ks.length->(S r↔S' r)):f=g:=by
 funext x
 rw[Bool.eq_iff_iff,h x,h' x]
 exact hs _ (by simp)
abbrev Par:=Int×Int
def pN (t:Par):List Nat:=[lo2 t.1,lo2 t.2]
def pX (t:Par):List Nat:=[lo2 t.2,lo2 t.1]
theorem sP (t:Par):(pN t).length=2/\∀v,v∈pN t->v<4:=⟨rfl,fun v hv=>by simp[pN]at hv;rcases hv with rfl|rfl<;>exact vd _⟩
theorem Pr (t:Par):(pX t).length=2/\∀v,v∈pX t->v<4:=⟨rfl,fun v hv=>by simp[pX]at hv;rcases hv with rfl|rfl<;>exact vd _⟩
def lR (p q:Par):Option (List Nat):=if lo2 p.2=lo2 q.1 then some [lo2 p.1,lo2 p.2,lo2 q.2] else none
def eh (p:Par)(B:List Par):List (List Nat):=B.filterMap (lR p)
def bZ (A B:List Par):List (List Nat):=A.flatMap fun p=>eh p B
theorem yC {p:Par}{B:List Par}{i:Nat}{q:Par}(h:B[i]?=some q):eh p (B.take (i+1))=eh p (B.take i)++(lR p q).toList:=by
 rw[eh,List.take_add_one,h,List.filterMap_append]
 simp only[Option.toList,List.filterMap_cons,List.filterMap_nil]
 cases lR p q<;>rfl
theorem yB {A B:List Par}{i:Nat}{p:Par}(h:A[i]?=some p):bZ (A.take (i+1)) B=bZ (A.take i) B++eh p B:=by
 rw[bZ,List.take_add_one,h,List.flatMap_append]
 simp[bZ]
theorem qu {A B:List Par}{t:List Nat}:t∈bZ A B↔∃p q,p∈A/\q∈B/\lo2 p.2=lo2 q.1/\t=[lo2 p.1,lo2 p.2,lo2 q.2]:=by
 simp only[bZ,eh,List.mem_flatMap,List.mem_filterMap,lR]
 constructor
 ·rintro⟨p,hp,q,hq,e⟩
  split at e
  ·rename_i h
   injection e with e
   exact⟨p,q,hp,hq,h,e.symm⟩
  ·cases e
 ·rintro⟨p,q,hp,hq,h,rfl⟩
  exact⟨p,hp,q,hq,by rw[if_pos h]⟩
theorem oq {A B:List Par}{t:List Nat}(h:t∈bZ A B):t.length=3/\∀v,v∈t->v<4:=by
 obtain⟨p,q,_,_,_,rfl⟩:=qu.1 h
 refine⟨rfl,fun v hv=>?_⟩
 simp at hv
 rcases hv with rfl|rfl|rfl<;>exact vd _
theorem jG {T:List (List Nat)}{w:Nat}(hT:∀t,t∈T->t.length=w/\∀v,v∈t->v<4):(br T).length<=4 ^ w:=by
 have key:∀w,∃U:List (List Nat),U.length=4 ^ w/\∀t:List Nat,t.length=w->(∀v,v∈t->v<4)->t∈U:=by
  intro w
  induction w with
  |zero=>exact⟨[[]],rfl,fun t h _=>by simp[List.length_eq_zero_iff.1 h]⟩
  |succ w ih=>
   obtain⟨U,h1,h2⟩:=ih
   refine⟨[0,1,2,3].flatMap fun a=>U.map (a::·),?_,fun t h hv=>?_⟩
   ·simp[h1,Nat.pow_succ];omega
   ·cases t with
    |nil=>simp at h
    |cons a t=>
     have ha:=hv a (List.mem_cons_self ..)
     have:=h2 t (by simpa using h) fun v hv2=>hv v (List.mem_cons_of_mem _ hv2)
     rw[List.mem_flatMap]
     refine⟨a,?_,A_.2 ⟨t,this,rfl⟩⟩
     have:a=0\/a=1\/a=2\/a=3:=by omega
     simpa using this
 obtain⟨U,h1,h2⟩:=key w
 have h3:=ed (X:=br T) (Y:=U.map eE) (pZ T).nodup fun r hr=>by
  obtain⟨t,ht,rfl⟩:=nY.1 hr
  exact A_.2 ⟨t,h2 t (hT t ht).1 (hT t ht).2,rfl⟩
 rwa [z_,h1]at h3
end Go.Proofs.YtohnaepcgnbaiaaGreatDoor
namespace Go.Proofs.YtohnaepcgnbaiaaGreatDoor
open Go.RowKit Go.Lib Go.Shelf
theorem mi {P:Program}{w:World}(base:Nat)(t ty e:TypeId)(i:TypeInfo)(size:Nat)(ht:P.underlying t=some (.slice e))(hi:P.info? e=some i)(v:Value)(n:Nat)(xs:List Value)(hown:w.ownsRow base e size v n xs)(p:Option Addr)(c:Nat) :
  (Builtin.append_ #[t,t] ty #[v,.slice p 0 c]).run P w=.ok v w:=by
 cases p with
 |none=>
  rcases hown.2 with ⟨rfl,rfl⟩|⟨g,cap,cur,rfl,_,_,hnc,_⟩
  ·simp[Builtin.append_,run_underlying ht,sizeOf,typeInfo,hi,Builtin.lenOf,Builtin.firstCells]
  ·simp[Builtin.append_,run_underlying ht,sizeOf,typeInfo,hi,Builtin.lenOf,Builtin.firstCells,hnc,storeCells]
 |some p=>
  rcases hown.2 with ⟨rfl,rfl⟩|⟨g,cap,cur,rfl,_,_,hnc,_⟩
  ·simp[Builtin.append_,run_underlying ht,sizeOf,typeInfo,hi,Builtin.lenOf,Builtin.firstCells,loadCells,loadCellsFrom]
  ·simp[Builtin.append_,run_underlying ht,sizeOf,typeInfo,hi,Builtin.lenOf,Builtin.firstCells,hnc,storeCells,loadCells,loadCellsFrom]
theorem i5 {P:Program}{w:World}{ops:Array Oper}{rest:List Oper}{o:Oper}{a:Act}{Q:Exit->Act->World->Prop}(hgd:o.guard=none)(s x:Operand)(t:TypeId)
  (ho:o.op=.call { callee:=.builtin .append,args:=#[s,x],argTypes:=#[t,t] })
  (base:Nat) (e:TypeId) (i:TypeInfo) (size:Nat) (ht:P.underlying t=some (.slice e)) (hi:P.info? e=some i)
  (v:Value) (n:Nat) (xs:List Value) (hs:a.eval s=v) (hown:w.ownsRow base e size v n xs) (p:Option Addr) (c:Nat) (hx:a.eval x=.slice p 0 c)
  (h:wpList P ops Q rest (a.put o.dst v) w):wpList P ops Q (o::rest) a w:=by
 refine wpList_plain hgd fun K hK=>?_
 have hrun:=mi (P:=P) (w:=w) base t o.type e i size ht hi v n xs hown p c
 unfold Oper.wp
 simp[execOp,ho,resolve,invoke,builtin,hs,hx,hrun,Result.andThen]
 exact hK _ _ h
set_option maxHeartbeats 4000000 in
theorem vz {P:Program}{ρ:Ren}(L:Go.Proofs.SlLaysE0.n41 P ρ)(i0:TypeInfo)(size:Nat)(hi:P.info? (ρ.t 23)=some i0)(z23:∀w,(Go.sizeOf (ρ.t 23)).run P w=.ok size w)(a:Addr)(c:Nat)(w:World) :
  Calls P (ρ.f 41) #[.slice (some a) 0 c] w fun e w'=>(∃a' c',e=.returned (.slice a' 0 c'))/\Below w.heap.size w w':=by
 have mixed:=L.mixed;have t4:=L.t4;have a4:=L.a4;have z4:=L.z4;have v4:=L.v4;have t22:=L.t22;have a22:=L.a22;have z22:=L.z22;have v22:=L.v22
 have q22:∀(w:World) (a:Option Addr) (n c n' c':Nat),(binOp .eql (ρ.t 22) (.slice a n c) (.slice none n' c')).run P w=.ok (.bool a.isNone) w:=fun w a n c n' c'=>Lib.run_eql_slice_nil w _ _ a n c n' c' L.t22
 have u22:∀w,Sem.run P (underlying (ρ.t 22)) w=.ok (TypeDesc.slice (ρ.t 23)) w:=run_underlying t22
 obtain⟨_,_,FG⟩:=L.f41
 go_enter FG,SlBodyN.n41_ntmps ρ
 go_wp2_with (at_builtin;refine i5 rfl _ _ (ρ.t 22) rfl w.heap.size (ρ.t 23) i0 size t22 hi _ _ _ rfl (World.ownsRow_made w #[] 0 (Nat.le_refl _) (Nat.zero_le _) (by simp)) (some a) c rfl ?_)
 go_wp2
 go_ret
 exact⟨⟨_,_,rfl⟩,(Below.refl _ w).alloc (Nat.le_refl _) _⟩
theorem Cu (s:St)(ow:Own):SRet Tryz.prog 62 [.lst [] ow] s (.lst [] .no) s:=by
 intro w0 G w vs hS hA
 obtain⟨v,rfl,hr⟩:=d7 hA
 have key:∃(a:Option Addr) (cap:Nat),v=.slice a 0 cap:=by
  generalize hq:VV.lst [] ow=q at hr
  cases hr with
  |emp a cap o ho=>exact⟨a,cap,rfl⟩
  |lst b off len cap sz xs o f hl hc hz h1 hK hR ho=>
   injection hq with hq1 hq2
   subst hq1
   simp at hl
   subst hl
   exact⟨_,_,rfl⟩
  |_=>cases hq
 obtain⟨a,cap,rfl⟩:=key
 have hc:Calls Tryz.prog 62 #[.slice a 0 cap] w fun e w'=>(∃a' c',e=.returned (.slice a' 0 c'))/\Below w.heap.size w w':=by
  cases a with
  |none=>
   refine(AnyE.slices_Clone_nil LU 0 cap w).mono ?_
   rintro e w' ⟨rfl,rfl⟩
   exact⟨⟨_,_,rfl⟩,Below.refl _ _⟩
  |some p=>
   have hi:=tE
   cases hi0:Tryz.prog.info? 52 with
   |none=>rw[hi0]at hi;cases hi
   |some i0=>exact vz LU i0 2 hi0 Tryz.sizeOf52 p cap w
 refine hc.mono ?_
 rintro e w' ⟨⟨a',c',rfl⟩,hb⟩
 exact⟨G,s,.ret (.lst [] .no),Gh.le.refl G,hS.world hb,.emp a' c' .no (.inl rfl),rfl,rfl⟩
end Go.Proofs.YtohnaepcgnbaiaaGreatDoor
namespace Go.Proofs.YtohnaepcgnbaiaaGreatDoor
open Go.RowKit
theorem t6 (s:St)(xs:List (List VV))(ow:Own)(hx:∀x,x∈xs->x.length=2)(hl:xs.length<=1000000):SRet Tryz.prog 62 [.lst xs ow] s (.lst xs .no) s:=by
 by_cases h:xs=[]
 ·subst h;exact Cu s ow
 ·exact Cw s xs ow h hx hl
set_option maxHeartbeats 4000000 in
theorem FF {s:St}{KK:OB}{n B q:Nat}{ns:List Tr}(hO:OMem s KK n B ns)(hq:s q=.obj 126 [.ptr KK.o 0,.ptr KK.s.p 0])(ds:List Dm)(ow:Own)(od:List UInt8)(hl:ds.length<=1000000)(hnl:∀d,d∈ds->d.1.length<=1000000000)(hod:od.length<=10000) :
  SCalls Tryz.prog 25 [.ptr q 0,.lst (cH ds) ow,.str od] s fun w u=>∃a:zn,w=.ret (Lw a.2 (jo n ds od))/\u=a.1/\MM s a.1 q a.2 ds (jo n ds od):=by
 obtain⟨d,cc,ho⟩:=hO.op
 obtain⟨mk,hM⟩:=hO.st.mem
 have wq:=dD s q KK.o KK.s.p hq
 have ws:=eU s KK.o KK.s.p d cc ho
 have wv:=kI s KK.s.p KK.s.g KK.s.q n B ns mk 0 hM
 have wc:=Ce s ds ow hl hnl
 have wb:=Fw s ds ow hl hnl
 have wp:=Cd s ds ow od hl hnl hod
 have wl:=t6 s (cH ds) ow (fun x hx=>by obtain⟨y,_,rfl⟩:=A_.1 hx;rfl) (by rw[iM];exact hl)
 clear hO hM hq ho hl hnl hod
 have hErr:∀e:Int,jo n ds od=.error e->(SRet Tryz.prog 25 [.ptr q 0,.lst (cH ds) ow,.str od] s (.tup [Pu,.int .i64 e]) s)->SCalls Tryz.prog 25 [.ptr q 0,.lst (cH ds) ow,.str od] s fun w u=>∃a:zn,w=.ret (Lw a.2 (jo n ds od))/\u=a.1/\MM s a.1 q a.2 ds (jo n ds od):=fun e h hs=>by
  rw[h]
  refine SCalls.mono (h:=hs) ?_
  rintro w u ⟨rfl,rfl⟩
  exact⟨(u,0),rfl,rfl,rfl⟩
 by_cases h1:iW ds=true
 ·rw[if_pos h1]at wc wb
  by_cases h2:(wdL ds).sum<=n
  ·have e1:jo n ds od=eO ds od:=by unfold jo;rw[if_pos ⟨h1,h2⟩]
   have h2':¬ (((wdL ds).sum:Nat):Int) > (n:Int):=by omega
   have h2'':¬ (n:Int)<(((wdL ds).sum:Nat):Int):=by omega
   cases hp:eO ds od with
   |error e=>
    refine hErr e (e1.trans hp) ?_
    rw[hp]at wp
    have he:¬ e=0:=by rcases uK hp with h|h<;>omega
    simp only[plV]at wp
    clear e1 hErr hp
    generalize cH ds=D at *
    generalize (wdL ds).sum=SM at *
    refine am Tryz.func25 rfl Tryz.ntmps25 rfl fun Q hQ hQe=>?_
    (repeat'(first|refine Ctl ?_|((with_reducible refine k_ hK ?_);clear hK hE K E)|((with_reducible refine ah (fun h=>?_) (fun h=>?_))<;>(try(exfalso;assumption)))|(((with_reducible first|refine ab fun K E hK hE=>?_|refine ae dK (wq) ?_|refine ae xG (wc) ?_|refine ae BE (wb) ?_|refine ae iv (ws) ?_|refine ae oX (wv) ?_|refine ae GO (wp) ?_))<;>(try simp(disch:=omega) only[go_sem,seval,h2',h2'',he, *]))))
    all_goals(refine aq sG hQ ?_)
    all_goals exact⟨_,_,Wk.refl _,Fg.refl _,rfl,rfl⟩
   |ok o=>
    rw[e1,hp]
    rw[hp]at wp
    simp only[plV]at wp
    have hNR:=fun(b:Nat) (hb:s b=.free)=>show MM s (s.set b (.obj 132 [.ptr q 0,.lst (cH ds) .no,.lst (atC o) .no])) q b ds (.ok o) from ⟨hb,rfl⟩
    have HNR:=o_ hNR
    clear e1 hErr hp hNR
    generalize cH ds=D at *
    generalize (wdL ds).sum=SM at *
    generalize atC o=A at *
    refine am Tryz.func25 rfl Tryz.ntmps25 rfl fun Q hQ hQe=>?_
    (repeat'(first|refine Ctl ?_|((with_reducible refine k_ hK ?_);clear hK hE K E)|((with_reducible refine ah (fun h=>?_) (fun h=>?_))<;>(try(exfalso;assumption)))|((first|(with_reducible first|refine ab fun K E hK hE=>?_|refine ae dK (wq) ?_|refine ae xG (wc) ?_|refine ae BE (wb) ?_|refine ae iv (ws) ?_|refine ae oX (wv) ?_|refine ae GO (wp) ?_|refine ae GN (wl) ?_)|((with_reducible refine au (fun b hb=>?_))))<;>(try simp(disch:=omega) only[go_sem,seval,h2',h2'', *]))))
    all_goals(refine aq sG hQ ?_)
    exact⟨_,_,Wk.refl _,Fg.refl _,mkA b rfl (HNR.out b hb)⟩
  ·have e1:jo n ds od=.error 1:=by unfold jo;rw[if_neg fun h=>h2 h.2]
   have h2':(((wdL ds).sum:Nat):Int) > (n:Int):=by omega
   have h2'':(n:Int)<(((wdL ds).sum:Nat):Int):=by omega
   refine hErr 1 e1 ?_
   clear e1 hErr wp wl
   generalize cH ds=D at *
   generalize (wdL ds).sum=SM at *
   refine am Tryz.func25 rfl Tryz.ntmps25 rfl fun Q hQ hQe=>?_
   (repeat'(first|refine Ctl ?_|((with_reducible refine k_ hK ?_);clear hK hE K E)|((with_reducible refine ah (fun h=>?_) (fun h=>?_))<;>(try(exfalso;assumption)))|(((with_reducible first|refine ab fun K E hK hE=>?_|refine ae dK (wq) ?_|refine ae xG (wc) ?_|refine ae BE (wb) ?_|refine ae iv (ws) ?_|refine ae oX (wv) ?_))<;>(try simp(disch:=omega) only[go_sem,seval,h2',h2'', *]))))
   all_goals(refine aq sG hQ ?_)
   all_goals exact⟨_,_,Wk.refl _,Fg.refl _,rfl,rfl⟩
 ·have e1:jo n ds od=.error 1:=by unfold jo;rw[if_neg fun h=>h1 h.1]
  rw[if_neg h1]at wc
  refine hErr 1 e1 ?_
  clear e1 hErr wp wl wb
  generalize cH ds=D at *
  refine am Tryz.func25 rfl Tryz.ntmps25 rfl fun Q hQ hQe=>?_
  (repeat'(first|refine Ctl ?_|((with_reducible refine k_ hK ?_);clear hK hE K E)|((with_reducible refine ah (fun h=>?_) (fun h=>?_))<;>(try(exfalso;assumption)))|(((with_reducible first|refine ab fun K E hK hE=>?_|refine ae dK (wq) ?_|refine ae xG (wc) ?_))<;>(try simp(disch:=omega) only[go_sem,seval, *]))))
  all_goals(refine aq sG hQ ?_)
  all_goals exact⟨_,_,Wk.refl _,Fg.refl _,rfl,rfl⟩
attribute [-go_sem] bJ cX bH bG
theorem Tells.swap {o:List (List Nat)}{d e:Nat}{S:List Nat->Prop}{g:(Nat->Bool)->Bool}(h:Tells o [d,e] S g):Tells o [e,d] (fun r=>S r.reverse) g:=fun x=>h x
theorem Tells.iff {o:List (List Nat)}{ks:List Nat}{S S':List Nat->Prop}{g:(Nat->Bool)->Bool}(h:Tells o ks S g)(hs:∀r,S r↔S' r):Tells o ks S' g:=h.congr fun r _=>hs r
theorem Tells.and {o:List (List Nat)}{ks:List Nat}{S S':List Nat->Prop}{f g:(Nat->Bool)->Bool}(h:Tells o ks S f)(h':Tells o ks S' g):Tells o ks (fun r=>S r/\S' r) (fun x=>f x && g x):=fun x=>by
 rw[Bool.and_eq_true,h x,h' x]
theorem Bn {g:(Nat->Bool)->Bool}{gone:Nat->Bool}(h:∀v,gone v=false):exF gone g=g:=by
 funext x
 rw[Bool.eq_iff_iff,mM]
 constructor
 ·rintro⟨y,hy,e⟩
  rwa [show y=x from funext fun v=>hy v (h v)]at e
 ·intro e
  exact⟨x,fun _ _=>rfl,e⟩
def inB (B:List Par)(p:Par):Bool:=B.any fun q=>decide (lo2 q.2=lo2 p.1) && decide (lo2 q.1=lo2 p.2)
theorem rq {B:List Par}{p:Par}:inB B p=true↔pN p∈B.map pX:=by
 simp only[inB,List.any_eq_true,Bool.and_eq_true,decide_eq_true_eq,A_,pX,pN,List.cons.injEq,and_true]
theorem EL {B:List Par}{p q:Par}{i:Nat}(h:B[i]?=some q):inB (B.take (i+1)) p=(inB (B.take i) p || (decide (lo2 q.2=lo2 p.1) && decide (lo2 q.1=lo2 p.2))):=by
 rw[inB,List.take_add_one,h,List.any_append]
 simp[inB]
def iV (A B:List Par):List (List Nat):=A.map pN++B.map pX
def dt (A B:List Par):List (List Nat):=(A.filter fun p=>!inB B p).map pN
section
variable {o : List (List Nat)} {A B : List Par} {T : List Tri} {f g : (Nat -> Bool) -> Bool}
theorem Ls (hf:Tells o [0,1] (·∈A.map pN) f)(hg:Tells o [1,0] (·∈B.map pN) g):Tells o [0,1] (·∈iV A B) (fun x=>f x || g x):=by
 refine(hf.or hg.swap).congr fun r hr=>?_
 simp only[iV,f_,A_]
 constructor
 ·rintro(h|⟨p,hp,e⟩)
  ·exact .inl h
  ·exact .inr ⟨p,hp,by rw[<- List.reverse_reverse r,<- e];rfl⟩
 ·rintro(h|⟨p,hp,e⟩)
  ·exact .inl h
  ·exact .inr ⟨p,hp,by rw[<- e];rfl⟩
theorem AQ (hf:Tells o [0,1] (·∈iV A B) f)(hg:Tells o [1,0] (·∈B.map pN) g):Tells o [0,1] (·∈dt A B) (fun x=>f x && !g x):=by
 refine(hf.diff hg.swap).congr fun r hr=>?_
 have hx:r.reverse∈B.map pN↔r∈B.map pX:=by
  simp only[A_]
  constructor
  ·rintro⟨p,hp,e⟩;exact⟨p,hp,by rw[<- List.reverse_reverse r,<- e];rfl⟩
  ·rintro⟨p,hp,e⟩;exact⟨p,hp,by rw[<- e];rfl⟩
 rw[hx]
 simp only[iV,dt,f_]
 constructor
 ·rintro⟨h|h,hn⟩
  ·obtain⟨p,hp,rfl⟩:=A_.1 h
   refine A_.2 ⟨p,List.mem_filter.2 ⟨hp,?_⟩,rfl⟩
   rw[Bool.not_eq_true',<- Bool.not_eq_true,rq]
   exact hn
  ·exact absurd h hn
 ·intro h
  obtain⟨p,hp,rfl⟩:=A_.1 h
  obtain⟨h1,h2⟩:=List.mem_filter.1 hp
  rw[Bool.not_eq_true',<- Bool.not_eq_true,rq]at h2
  exact⟨.inl (List.mem_map_of_mem h1),h2⟩
theorem BS (hf:Tells o [2,0] (·∈B.map pN) f)(hg:Tells o [0,2] (·∈dt A B) g):Tells o [0,2] (·∈iV A B) (fun x=>f x || g x):=by
 refine(hf.swap.or hg).congr fun r hr=>?_
 have hx:r.reverse∈B.map pN↔r∈B.map pX:=by
  simp only[A_]
  constructor
  ·rintro⟨p,hp,e⟩;exact⟨p,hp,by rw[<- List.reverse_reverse r,<- e];rfl⟩
  ·rintro⟨p,hp,e⟩;exact⟨p,hp,by rw[<- e];rfl⟩
 rw[hx]
 simp only[iV,dt,f_]
 constructor
 ·rintro(h|h)
  ·exact .inr h
  ·obtain⟨p,hp,rfl⟩:=A_.1 h
   exact .inl (List.mem_map_of_mem (List.mem_filter.1 hp).1)
 ·rintro(h|h)
  ·obtain⟨p,hp,rfl⟩:=A_.1 h
   by_cases hb:inB B p=true
   ·exact .inl (rq.1 hb)
   ·exact .inr (A_.2 ⟨p,List.mem_filter.2 ⟨hp,by simpa using hb⟩,rfl⟩)
  ·exact .inl h
theorem qt {a b c:Nat}(hf:Tells o [a,b] (·∈A.map pN) f)(hg:Tells o [b,c] (·∈B.map pN) g):Tells o [a,b,c] (·∈bZ A B) (fun x=>f x && g x):=fun x=>by
 rw[Bool.and_eq_true,hf x,hg x]
 simp only[List.map_cons,List.map_nil,A_,pN,List.cons.injEq,and_true]
 rw[qu]
 simp only[List.cons.injEq,and_true]
 constructor
 ·rintro⟨⟨p,hp,e1,e2⟩,q,hq,e3,e4⟩
  exact⟨p,q,hp,hq,by rw[e2,e3],e1.symm,e2.symm,e4.symm⟩
 ·rintro⟨p,q,hp,hq,e,e1,e2,e3⟩
  exact⟨⟨p,hp,e1.symm,e2.symm⟩,q,hq,by rw[e2,e],e3.symm⟩
theorem vf {a b c:Nat}(hf:Tells o [b,c] (·∈B.map pN) f)(hg:Tells o [a,b] (·∈A.map pN) g):Tells o [a,b,c] (·∈bZ A B) (fun x=>f x && g x):=by
 have:=qt hg hf
 intro x
 show (f x && g x)=true↔_
 rw[Bool.and_comm]
 exact this x
end
end Go.Proofs.YtohnaepcgnbaiaaGreatDoor
