/- Walks of functions that the claim reaches, and plain facts of them. Conditions: those in the statements. -/
import Derived.Test.YtohnaepcgnbaiaaGreatDoorJjSaj
import Derived.Test.YtohnaepcgnbaiaaGreatDoorJjSoundFj
import Derived.Test.YtohnaepcgnbaiaaGreatDoorJjRuj
import Derived.Laws.AppendOwnNone
set_option linter.unusedSimpArgs false
set_option linter.unusedVariables false
set_option maxRecDepth 100000
namespace Go.Proofs.YtohnaepcgnbaiaaGreatDoor
open Go.RowKit
theorem Cquan_S (s:St)(c q:Nat)(D A:VV)(h:s c=.obj 132 [.ptr q 0,D,A]):SRet Tryz.prog 63 [.ptr c 0] s (.ptr q 0) s:=by
 refine G_enter Tryz.func63 rfl Tryz.ntmps63 rfl fun Q hQ hQe=>?_
 (repeat'(first|refine Ctl ?_|((with_reducible refine Kof.use hK ?_);clear hK hE K E)|((with_reducible refine W_cond (fun h=>?_) (fun h=>?_))<;>(try(exfalso;assumption)))|(((with_reducible refine G_region fun K E hK hE=>?_))<;>(try simp(disch:=omega) only[go_sem,seval, *]))))
 all_goals(refine W_ret res63 hQ ?_)
 all_goals(refine⟨_,_,Wk.of_eq ?_,?_,rfl,rfl⟩)
 all_goals first|rfl|(exact z_fg)
section
variable {s u : St} {K : OB} {q c : Nat} {ns : List Tr} {x y : Nat} {o : List (List Nat)} {N : Nat}
theorem Law.vlen (h:Law s u K q c ns x y o N):∀l:List Nat,(∀k,k∈l→k<3)→(varsOf o l).length≤4 * l.length:=by
 intro l
 induction l with
 |nil=>intro _;simp[varsOf]
 |cons k l ih=>
  intro hl
  have:=ih fun k hk=>hl k (List.mem_cons_of_mem _ hk)
  have h2:=(h.wid (hl k (List.mem_cons_self ..))).2.1
  have e:varsOf o (k::l)=o.getD k []++varsOf o l:=by simp[varsOf]
  rw[e,List.length_append,List.length_cons]
  omega
theorem Law.vars (h:Law s u K q c ns x y o N)(ks:List Nat)(ow:Own)(hks:∀k,k∈ks→k<3)(hl:ks.length≤32) :
  SRet Tryz.prog 41 [.ptr c 0,.lst (natsL ks) ow] u (.tup (if ks.Nodup then [.lst (natsL (varsOf o ks)) .no,.int .i64 0] else [.lst [] .no,.int .i64 1])) u:=
 Cvars_S h.C h.D ks ow hks hl
theorem Law.sizes {ks vals:List Nat}(hvs:∀(i k v:Nat),ks[i]?=some k→vals[i]?=some v→v<szD x y k)(hks:∀k,k∈ks→k<3):∀(i k v:Nat) (z:List UInt8×Nat),ks[i]?=some k→vals[i]?=some v→(dsT x y)[k]?=some z→v<z.2:=fun i k v z h1 h2 h3=>by
 rw[dsT_at (hks k (List.mem_of_getElem? h1))]at h3
 injection h3 with h3
 rw[← h3]
 exact hvs i k v h1 h2
theorem Law.tuple (h:Law s u K q c ns x y o N)(ks vals:List Nat)(ow ow2:Own)(hks:∀k,k∈ks→k<3)(hl:ks.length≤3)(hnd:ks.Nodup)(hvl:vals.length=ks.length)(hvs:∀(i k v:Nat),ks[i]?=some k→vals[i]?=some v→v<szD x y k)(hB:N+12≤16384) :
  OpFC 52 [.ptr c 0,.lst (natsL ks) ow,.lst (natsL vals) ow2] u K 12 16384 ns (N+12) (tupF o ks vals):=by
 have hv:=h.vlen ks hks
 exact(Ctuple_S h.C h.D ks vals ow ow2 hks (by omega) hnd hvl (Law.sizes hvs hks) h.n (by omega)).mono (by omega)
theorem Law.co (h:Law s u K q c ns x y o N):SRet Tryz.prog 39 [.ptr q 0] u (.ptr K.o 0) u:=Qops_S u q K.o K.s.p h.C.qo
theorem Law.own (h:Law s u K q c ns x y o N){ow:Own}{T:TypeId}{sz n:Nat}(hO:OwnOk u ow n):Law s (u.own ow T sz n) K q c ns x y o N:=h.more fun z hz=>by
 rcases Fg.own (T:=T) (sz:=sz) hO z with e|e
 ·exact absurd e hz
 ·exact e.symm
end
theorem rem_nat {k m:Nat}:((k:Int)).tmod ((m:Nat):Int)=((k % m:Nat):Int):=by rw[Int.tmod_eq_emod_of_nonneg (Int.natCast_nonneg _)];rfl
attribute [-go_sem] p_and p_or p_shl p_shr
def rowN (t:List Nat):List Int:=t.map fun(k:Nat)=>(k:Int)
def putA (T:List (List Nat)):List (List Int):=T.foldl (fun l t=>putRow l (rowN t)) []
theorem putA_mem {r:List Int}:∀{T:List (List Nat)} {l:List (List Int)},r∈T.foldl (fun l t=>putRow l (rowN t)) l↔r∈l∨∃t,t∈T∧r=rowN t
 |[],l=>by simp
 |t::T,l=>by
  rw[List.foldl_cons,putA_mem,putRow_mem]
  simp only[List.mem_cons]
  constructor
  ·rintro((h|h)|⟨u,h,e⟩)
   ·exact .inl h
   ·exact .inr ⟨t,.inl rfl,h⟩
   ·exact .inr ⟨u,.inr h,e⟩
  ·rintro(h|⟨u,rfl|h,e⟩)
   ·exact .inl (.inl h)
   ·exact .inl (.inr e)
   ·exact .inr ⟨u,h,e⟩
theorem putA_rising:∀{T:List (List Nat)} {l:List (List Int)},Rising l→Rising (T.foldl (fun l t=>putRow l (rowN t)) l)
 |[],_,h=>h
 |t::T,l,h=>putA_rising (T:=T) (putRow_rising h)
end Go.Proofs.YtohnaepcgnbaiaaGreatDoor
namespace Go.Proofs.YtohnaepcgnbaiaaGreatDoor
open Go.RowKit
attribute [-go_sem] p_and p_or p_shl p_shr
def vN (o:List (List Nat))(x:Nat→Bool)(k:Nat):Nat:=numA (o.getD k []) x
def Tells (o:List (List Nat))(ks:List Nat)(S:List Nat→Prop)(g:(Nat→Bool)→Bool):Prop:=∀x,g x=true↔S (ks.map (vN o x))
theorem vN_congr {o:List (List Nat)}{ks:List Nat}{x y:Nat→Bool}(h:∀v,v∈varsOf o ks→x v=y v):ks.map (vN o x)=ks.map (vN o y):=
 List.map_congr_left fun k hk=>numA_congr fun v hv=>h v (List.mem_flatMap.2 ⟨k,hk,hv⟩)
theorem Tells.dep {o:List (List Nat)}{ks:List Nat}{S:List Nat→Prop}{g:(Nat→Bool)→Bool}(h:Tells o ks S g):DepF (varsOf o ks) g:=fun x y e=>by
 rw[Bool.eq_iff_iff,h x,h y,vN_congr e]
theorem Tells.congr {o:List (List Nat)}{ks:List Nat}{S S':List Nat→Prop}{g:(Nat→Bool)→Bool}(h:Tells o ks S g)(hs:∀r,r.length=ks.length→(S r↔S' r)):Tells o ks S' g:=fun x=>(h x).trans (hs _ (by simp))
theorem tupF_vals {o:List (List Nat)}{x:Nat→Bool}:∀{ks t:List Nat},t.length=ks.length→(tupF o ks t x=true↔ks.map (vN o x)=t)
 |[],[],_=>by simp[tupF]
 |[],_::_,h=>by simp at h
 |_::_,[],h=>by simp at h
 |k::ks,v::t,h=>by
  have ih:=tupF_vals (o:=o) (x:=x) (ks:=ks) (t:=t) (by simpa using h)
  simp only[tupF,List.zip_cons_cons,List.all_cons,Bool.and_eq_true,decide_eq_true_eq,List.map_cons,List.cons.injEq]at ih ⊢
  exact and_congr Iff.rfl ih
def orK (o:List (List Nat))(ks:List Nat)(T:List (List Nat))(x:Nat→Bool):Bool:=T.any fun t=>tupF o ks t x
theorem orK_add {o:List (List Nat)}{ks:List Nat}{T:List (List Nat)}{t:List Nat}:(fun x=>orK o ks T x || tupF o ks t x)=orK o ks (T++[t]):=by
 funext x
 simp[orK]
theorem orK_tells {o:List (List Nat)}{ks:List Nat}{T:List (List Nat)}(h:∀t,t∈T→t.length=ks.length):Tells o ks (·∈T) (orK o ks T):=fun x=>by
 simp only[orK,List.any_eq_true]
 constructor
 ·rintro⟨t,ht,e⟩
  rw[(tupF_vals (h t ht)).1 e];exact ht
 ·intro ht
  exact⟨_,ht,(tupF_vals (h _ ht)).2 rfl⟩
theorem numA_ren {by_:Nat→Nat}:∀{l l':List Nat} {x:Nat→Bool},l.map by_=l'→numA l (fun v=>x (by_ v))=numA l' x
 |[],_,x,h=>by subst h;rfl
 |v::l,_,x,h=>by
  subst h
  simp only[List.map_cons,numA]
  rw[numA_ren (l:=l) (l':=l.map by_) (x:=x) rfl]
theorem Tells.ren {o:List (List Nat)}{ks ks':List Nat}{S:List Nat→Prop}{g:(Nat→Bool)→Bool}{by_:Nat→Nat}(h:Tells o ks S g)(hb:ks.map (fun k=>(o.getD k []).map by_)=ks'.map fun k=>o.getD k []):Tells o ks' S (rnF by_ g):=fun x=>by
 have e:ks.map (vN o fun v=>x (by_ v))=ks'.map (vN o x):=by
  have h1:ks.map (vN o fun v=>x (by_ v))=(ks.map fun k=>(o.getD k []).map by_).map fun l=>numA l x:=by
   rw[List.map_map]
   exact List.map_congr_left fun k _=>numA_ren rfl
  rw[h1,hb,List.map_map]
  rfl
 rw[← e]
 exact h _
theorem Tells.or {o:List (List Nat)}{ks:List Nat}{S S':List Nat→Prop}{f g:(Nat→Bool)→Bool}(h:Tells o ks S f)(h':Tells o ks S' g):Tells o ks (fun r=>S r∨S' r) (fun x=>f x || g x):=fun x=>by
 rw[Bool.or_eq_true,h x,h' x]
theorem Tells.diff {o:List (List Nat)}{ks:List Nat}{S S':List Nat→Prop}{f g:(Nat→Bool)→Bool}(h:Tells o ks S f)(h':Tells o ks S' g):Tells o ks (fun r=>S r∧¬ S' r) (fun x=>f x && !g x):=fun x=>by
 rw[Bool.and_eq_true,h x,Bool.not_eq_true',← Bool.not_eq_true,h' x]
theorem tells_rows {n:Nat}{ds:List (List UInt8×Nat)}{o:List (List Nat)}(hD:DOk n ds o){ks:List Nat}(hks:∀k,k∈ks→k<ds.length)(hnd:ks.Nodup){S:List Nat→Prop}{g:(Nat→Bool)→Bool}(hg:Tells o ks S g){R:List (List Int)}(hR:Rising R)
  (hm:∀r:List Int,r∈R↔∃t:List Nat,S t∧t.length=ks.length∧(∀p,p∈ks.zip t→p.2<2 ^ (o.getD p.1 []).length)∧r=rowN t):sortR (tupR (treeT n g) o ks)=R:=by
 symm
 refine sortR_uniq hR fun r=>?_
 rw[tup_mem hD hks hnd hg.dep,hm]
 constructor
 ·rintro⟨t,hS,hl,hlt,rfl⟩
  have hN:=varsOf_nd hD hnd hks
  obtain⟨x,hx⟩:=num_ex ((ks.zip t).map fun p=>(o.getD p.1 [],p.2)) (by
   have e:((ks.zip t).map fun p=>(o.getD p.1 [],p.2)).map (·.1)=ks.map fun k=>o.getD k []:=by
    rw[List.map_map]
    show (ks.zip t).map (fun p=>o.getD p.1 [])=_
    have e2:=List.map_map (f:=Prod.fst) (g:=fun k=>o.getD k []) (l:=ks.zip t)
    rw[List.map_fst_zip (by omega)]at e2
    exact e2.symm
   rw[e];exact hN) (fun p hp=>by
   obtain⟨q,hq,rfl⟩:=List.mem_map.1 hp
   exact hlt q hq)
  have e:ks.map (vN o x)=t:=by
   apply List.ext_getElem (by simp[hl])
   intro i h1 h2
   simp at h1
   have:=hx (o.getD ks[i] [],t[i]) (List.mem_map.2 ⟨(ks[i],t[i]),by
    rw[List.mem_iff_getElem]
    exact⟨i,by simp;omega,by simp⟩,rfl⟩)
   simpa [vN]using this
  refine⟨x,(hg x).2 (by rw[e];exact hS),?_⟩
  rw[← e,rowN,List.map_map]
  rfl
 ·rintro⟨x,hx,rfl⟩
  refine⟨ks.map (vN o x),(hg x).1 hx,by simp,fun p hp=>?_,by rw[rowN,List.map_map];rfl⟩
  rw[List.mem_iff_getElem]at hp
  obtain⟨i,hi,rfl⟩:=hp
  simp[vN]
  exact numA_lt _ _
end Go.Proofs.YtohnaepcgnbaiaaGreatDoor
namespace Go.Proofs.YtohnaepcgnbaiaaGreatDoor
open Go.RowKit
attribute [-go_sem] p_and p_or p_shl p_shr
abbrev Tri:=Int×Int×Int
end Go.Proofs.YtohnaepcgnbaiaaGreatDoor
namespace Go.Proofs.YtohnaepcgnbaiaaGreatDoor
open Go.RowKit
attribute [-go_sem] p_and p_or p_shl p_shr
def lo2 (a:Int):Nat:=addP 2 a
theorem lo2_lt (a:Int):lo2 a<4:=addP_lt 2 a
theorem and_3 (a:Int):vint .and .i64 a 3=some (.int .i64 ((lo2 a:Nat):Int)):=by
 have h:=and_low (w:=2) (by omega) a
 have e:IntKind.i64.wrap (((2 ^ 2:Nat):Int) - 1)=3:=by decide
 rwa [e]at h
theorem mem_putA {T:List (List Nat)}{r:List Int}:r∈putA T↔∃t,t∈T∧r=rowN t:=by
 rw[putA,putA_mem];simp
theorem putA_rise (T:List (List Nat)):Rising (putA T):=putA_rising Rising.nil
theorem tells_T {n:Nat}{ds:List (List UInt8×Nat)}{o:List (List Nat)}(hD:DOk n ds o){ks:List Nat}(hks:∀k,k∈ks→k<ds.length)(ho:∀k,k∈ks→(o.getD k []).length=2)(hnd:ks.Nodup){T:List (List Nat)}{g:(Nat→Bool)→Bool}(hg:Tells o ks (·∈T) g)
  (hT:∀t,t∈T→t.length=ks.length∧∀v,v∈t→v<4):sortR (tupR (treeT n g) o ks)=putA T:=by
 refine tells_rows hD hks hnd hg (putA_rise T) fun r=>?_
 rw[mem_putA]
 constructor
 ·rintro⟨t,ht,rfl⟩
  refine⟨t,ht,(hT t ht).1,fun p hp=>?_,rfl⟩
  rw[ho _ (List.of_mem_zip hp).1]
  exact(hT t ht).2 _ (List.of_mem_zip hp).2
 ·rintro⟨t,ht,_,_,e⟩
  exact⟨t,ht,e⟩
theorem Tells.same {o:List (List Nat)}{ks:List Nat}{S S':List Nat→Prop}{f g:(Nat→Bool)→Bool}(h:Tells o ks S f)(h':Tells o ks S' g)(hs:∀r,r.length=ks.length→(S r↔S' r)):f=g:=by
 funext x
 rw[Bool.eq_iff_iff,h x,h' x]
 exact hs _ (by simp)
abbrev Par:=Int×Int
def pN (t:Par):List Nat:=[lo2 t.1,lo2 t.2]
theorem pN_ok (t:Par):(pN t).length=2∧∀v,v∈pN t→v<4:=⟨rfl,fun v hv=>by simp[pN]at hv;rcases hv with rfl|rfl<;>exact lo2_lt _⟩
theorem rows_le {T:List (List Nat)}{w:Nat}(hT:∀t,t∈T→t.length=w∧∀v,v∈t→v<4):(putA T).length≤4 ^ w:=by
 have key:∀w,∃U:List (List Nat),U.length=4 ^ w∧∀t:List Nat,t.length=w→(∀v,v∈t→v<4)→t∈U:=by
  intro w
  induction w with
  |zero=>exact⟨[[]],rfl,fun t h _=>by simp[List.length_eq_zero_iff.1 h]⟩
  |succ w ih=>
   obtain⟨U,h1,h2⟩:=ih
   refine⟨[0,1,2,3].flatMap fun a=>U.map (a::·),?_,fun t h hv=>?_⟩
   ·simp[h1,Nat.pow_succ];omega
   ·cases t with
    |nil=>simp at h
    |cons a t=>
     have ha:=hv a (List.mem_cons_self ..)
     have:=h2 t (by simpa using h) fun v hv2=>hv v (List.mem_cons_of_mem _ hv2)
     rw[List.mem_flatMap]
     refine⟨a,?_,List.mem_map.2 ⟨t,this,rfl⟩⟩
     have:a=0∨a=1∨a=2∨a=3:=by omega
     simpa using this
 obtain⟨U,h1,h2⟩:=key w
 have h3:=nodup_le (X:=putA T) (Y:=U.map rowN) (putA_rise T).nodup fun r hr=>by
  obtain⟨t,ht,rfl⟩:=mem_putA.1 hr
  exact List.mem_map.2 ⟨t,h2 t (hT t ht).1 (hT t ht).2,rfl⟩
 rwa [List.length_map,h1]at h3
end Go.Proofs.YtohnaepcgnbaiaaGreatDoor
namespace Go.Proofs.YtohnaepcgnbaiaaGreatDoor
open Go.RowKit Go.Lib Go.Shelf
theorem run_append_zero {P:Program}{w:World}(base:Nat)(t ty e:TypeId)(i:TypeInfo)(size:Nat)(ht:P.underlying t=some (.slice e))(hi:P.info? e=some i)(v:Value)(n:Nat)(xs:List Value)(hown:w.ownsRow base e size v n xs)(p:Option Addr)(c:Nat) :
  (Builtin.append_ #[t,t] ty #[v,.slice p 0 c]).run P w=.ok v w:=by
 cases p with
 |none=>
  rcases hown.2 with ⟨rfl,rfl⟩|⟨g,cap,cur,rfl,_,_,hnc,_⟩
  ·simp[Builtin.append_,run_underlying ht,sizeOf,typeInfo,hi,Builtin.lenOf,Builtin.firstCells]
  ·simp[Builtin.append_,run_underlying ht,sizeOf,typeInfo,hi,Builtin.lenOf,Builtin.firstCells,hnc,storeCells]
 |some p=>
  rcases hown.2 with ⟨rfl,rfl⟩|⟨g,cap,cur,rfl,_,_,hnc,_⟩
  ·simp[Builtin.append_,run_underlying ht,sizeOf,typeInfo,hi,Builtin.lenOf,Builtin.firstCells,loadCells,loadCellsFrom]
  ·simp[Builtin.append_,run_underlying ht,sizeOf,typeInfo,hi,Builtin.lenOf,Builtin.firstCells,hnc,storeCells,loadCells,loadCellsFrom]
theorem wpList_append_zero {P:Program}{w:World}{ops:Array Oper}{rest:List Oper}{o:Oper}{a:Act}{Q:Exit→Act→World→Prop}(hgd:o.guard=none)(s x:Operand)(t:TypeId)
  (ho:o.op=.call { callee:=.builtin .append,args:=#[s,x],argTypes:=#[t,t] })
  (base:Nat) (e:TypeId) (i:TypeInfo) (size:Nat) (ht:P.underlying t=some (.slice e)) (hi:P.info? e=some i)
  (v:Value) (n:Nat) (xs:List Value) (hs:a.eval s=v) (hown:w.ownsRow base e size v n xs) (p:Option Addr) (c:Nat) (hx:a.eval x=.slice p 0 c)
  (h:wpList P ops Q rest (a.put o.dst v) w):wpList P ops Q (o::rest) a w:=by
 refine wpList_plain hgd fun K hK=>?_
 have hrun:=run_append_zero (P:=P) (w:=w) base t o.type e i size ht hi v n xs hown p c
 unfold Oper.wp
 simp[execOp,ho,resolve,invoke,builtin,hs,hx,hrun,Result.andThen]
 exact hK _ _ h
set_option maxHeartbeats 4000000 in
theorem clone_zero {P:Program}{ρ:Ren}(L:Go.Proofs.SlLaysE0.n41 P ρ)(i0:TypeInfo)(size:Nat)(hi:P.info? (ρ.t 23)=some i0)(z23:∀w,(Go.sizeOf (ρ.t 23)).run P w=.ok size w)(a:Addr)(c:Nat)(w:World) :
  Calls P (ρ.f 41) #[.slice (some a) 0 c] w fun e w'=>(∃a' c',e=.returned (.slice a' 0 c'))∧Below w.heap.size w w':=by
 have mixed:=L.mixed;have t4:=L.t4;have a4:=L.a4;have z4:=L.z4;have v4:=L.v4;have t22:=L.t22;have a22:=L.a22;have z22:=L.z22;have v22:=L.v22
 have q22:∀(w:World) (a:Option Addr) (n c n' c':Nat),(binOp .eql (ρ.t 22) (.slice a n c) (.slice none n' c')).run P w=.ok (.bool a.isNone) w:=fun w a n c n' c'=>Lib.run_eql_slice_nil w _ _ a n c n' c' L.t22
 have u22:∀w,Sem.run P (underlying (ρ.t 22)) w=.ok (TypeDesc.slice (ρ.t 23)) w:=run_underlying t22
 obtain⟨_,_,FG⟩:=L.f41
 go_enter FG,SlBodyN.n41_ntmps ρ
 go_wp2_with (at_builtin;refine wpList_append_zero rfl _ _ (ρ.t 22) rfl w.heap.size (ρ.t 23) i0 size t22 hi _ _ _ rfl (World.ownsRow_made w #[] 0 (Nat.le_refl _) (Nat.zero_le _) (by simp)) (some a) c rfl ?_)
 go_wp2
 go_ret
 exact⟨⟨_,_,rfl⟩,(Below.refl _ w).alloc (Nat.le_refl _) _⟩
theorem CloneZ_S (s:St)(ow:Own):SRet Tryz.prog 62 [.lst [] ow] s (.lst [] .no) s:=by
 intro w0 G w vs hS hA
 obtain⟨v,rfl,hr⟩:=RL_one hA
 have key:∃(a:Option Addr) (cap:Nat),v=.slice a 0 cap:=by
  generalize hq:VV.lst [] ow=q at hr
  cases hr with
  |emp a cap o ho=>exact⟨a,cap,rfl⟩
  |lst b off len cap sz xs o f hl hc hz h1 hK hR ho=>
   injection hq with hq1 hq2
   subst hq1
   simp at hl
   subst hl
   exact⟨_,_,rfl⟩
  |_=>cases hq
 obtain⟨a,cap,rfl⟩:=key
 have hc:Calls Tryz.prog 62 #[.slice a 0 cap] w fun e w'=>(∃a' c',e=.returned (.slice a' 0 c'))∧Below w.heap.size w w':=by
  cases a with
  |none=>
   refine(AnyE.slices_Clone_nil domE 0 cap w).mono ?_
   rintro e w' ⟨rfl,rfl⟩
   exact⟨⟨_,_,rfl⟩,Below.refl _ _⟩
  |some p=>
   have hi:=dom_info
   cases hi0:Tryz.prog.info? 52 with
   |none=>rw[hi0]at hi;cases hi
   |some i0=>exact clone_zero domE i0 2 hi0 Tryz.sizeOf52 p cap w
 refine hc.mono ?_
 rintro e w' ⟨⟨a',c',rfl⟩,hb⟩
 exact⟨G,s,.ret (.lst [] .no),Gh.le.refl G,hS.world hb,.emp a' c' .no (.inl rfl),rfl,rfl⟩
end Go.Proofs.YtohnaepcgnbaiaaGreatDoor
namespace Go.Proofs.YtohnaepcgnbaiaaGreatDoor
open Go.RowKit
theorem CloneA_S (s:St)(xs:List (List VV))(ow:Own)(hx:∀x,x∈xs→x.length=2)(hl:xs.length≤1000000):SRet Tryz.prog 62 [.lst xs ow] s (.lst xs .no) s:=by
 by_cases h:xs=[]
 ·subst h;exact CloneZ_S s ow
 ·exact CloneD_S s xs ow h hx hl
set_option maxHeartbeats 4000000 in
theorem CnewA_S {s:St}{KK:OB}{n B q:Nat}{ns:List Tr}(hO:OMem s KK n B ns)(hq:s q=.obj 126 [.ptr KK.o 0,.ptr KK.s.p 0])(ds:List Dm)(ow:Own)(od:List UInt8)(hl:ds.length≤1000000)(hnl:∀d,d∈ds→d.1.length≤1000000000)(hod:od.length≤10000) :
  SCalls Tryz.prog 25 [.ptr q 0,.lst (domsI ds) ow,.str od] s fun w u=>∃a:BoxA,w=.ret (newV a.2 (newF n ds od))∧u=a.1∧NewR s a.1 q a.2 ds (newF n ds od):=by
 obtain⟨d,cc,ho⟩:=hO.op
 obtain⟨mk,hM⟩:=hO.st.mem
 have wq:=Qops_S s q KK.o KK.s.p hq
 have ws:=Ostore_S s KK.o KK.s.p d cc ho
 have wv:=Nvars_S s KK.s.p KK.s.g KK.s.q n B ns mk 0 hM
 have wc:=Lcheck_S s ds ow hl hnl
 have wb:=Lbits_S s ds ow hl hnl
 have wp:=Lplace_S s ds ow od hl hnl hod
 have wl:=CloneA_S s (domsI ds) ow (fun x hx=>by obtain⟨y,_,rfl⟩:=List.mem_map.1 hx;rfl) (by rw[domsI_len];exact hl)
 clear hO hM hq ho hl hnl hod
 have hErr:∀e:Int,newF n ds od=.error e→(SRet Tryz.prog 25 [.ptr q 0,.lst (domsI ds) ow,.str od] s (.tup [nilP,.int .i64 e]) s)→SCalls Tryz.prog 25 [.ptr q 0,.lst (domsI ds) ow,.str od] s fun w u=>∃a:BoxA,w=.ret (newV a.2 (newF n ds od))∧u=a.1∧NewR s a.1 q a.2 ds (newF n ds od):=fun e h hs=>by
  rw[h]
  refine SCalls.mono (h:=hs) ?_
  rintro w u ⟨rfl,rfl⟩
  exact⟨(u,0),rfl,rfl,rfl⟩
 by_cases h1:mayDs ds=true
 ·rw[if_pos h1]at wc wb
  by_cases h2:(wdL ds).sum≤n
  ·have e1:newF n ds od=placeF ds od:=by unfold newF;rw[if_pos ⟨h1,h2⟩]
   have h2':¬ (((wdL ds).sum:Nat):Int) > (n:Int):=by omega
   have h2'':¬ (n:Int)<(((wdL ds).sum:Nat):Int):=by omega
   cases hp:placeF ds od with
   |error e=>
    refine hErr e (e1.trans hp) ?_
    rw[hp]at wp
    have he:¬ e=0:=by rcases placeF_err hp with h|h<;>omega
    simp only[plV]at wp
    clear e1 hErr hp
    generalize domsI ds=D at *
    generalize (wdL ds).sum=SM at *
    refine G_enter Tryz.func25 rfl Tryz.ntmps25 rfl fun Q hQ hQe=>?_
    (repeat'(first|refine Ctl ?_|((with_reducible refine Kof.use hK ?_);clear hK hE K E)|((with_reducible refine W_cond (fun h=>?_) (fun h=>?_))<;>(try(exfalso;assumption)))|(((with_reducible first|refine G_region fun K E hK hE=>?_|refine call_ret can39 (wq) ?_|refine call_ret can58 (wc) ?_|refine call_ret can59 (wb) ?_|refine call_ret can57 (ws) ?_|refine call_ret can60 (wv) ?_|refine call_ret can61 (wp) ?_))<;>(try simp(disch:=omega) only[go_sem,seval,h2',h2'',he, *]))))
    all_goals(refine W_ret res25 hQ ?_)
    all_goals exact⟨_,_,Wk.refl _,Fg.refl _,rfl,rfl⟩
   |ok o=>
    rw[e1,hp]
    rw[hp]at wp
    simp only[plV]at wp
    have hNR:=fun(b:Nat) (hb:s b=.free)=>show NewR s (s.set b (.obj 132 [.ptr q 0,.lst (domsI ds) .no,.lst (atC o) .no])) q b ds (.ok o) from ⟨hb,rfl⟩
    have HNR:=Lib.hid hNR
    clear e1 hErr hp hNR
    generalize domsI ds=D at *
    generalize (wdL ds).sum=SM at *
    generalize atC o=A at *
    refine G_enter Tryz.func25 rfl Tryz.ntmps25 rfl fun Q hQ hQe=>?_
    (repeat'(first|refine Ctl ?_|((with_reducible refine Kof.use hK ?_);clear hK hE K E)|((with_reducible refine W_cond (fun h=>?_) (fun h=>?_))<;>(try(exfalso;assumption)))|((first|(with_reducible first|refine G_region fun K E hK hE=>?_|refine call_ret can39 (wq) ?_|refine call_ret can58 (wc) ?_|refine call_ret can59 (wb) ?_|refine call_ret can57 (ws) ?_|refine call_ret can60 (wv) ?_|refine call_ret can61 (wp) ?_|refine call_ret can62 (wl) ?_)|((with_reducible refine W_fresh (fun b hb=>?_))))<;>(try simp(disch:=omega) only[go_sem,seval,h2',h2'', *]))))
    all_goals(refine W_ret res25 hQ ?_)
    exact⟨_,_,Wk.refl _,Fg.refl _,mkA b rfl (HNR.out b hb)⟩
  ·have e1:newF n ds od=.error 1:=by unfold newF;rw[if_neg fun h=>h2 h.2]
   have h2':(((wdL ds).sum:Nat):Int) > (n:Int):=by omega
   have h2'':(n:Int)<(((wdL ds).sum:Nat):Int):=by omega
   refine hErr 1 e1 ?_
   clear e1 hErr wp wl
   generalize domsI ds=D at *
   generalize (wdL ds).sum=SM at *
   refine G_enter Tryz.func25 rfl Tryz.ntmps25 rfl fun Q hQ hQe=>?_
   (repeat'(first|refine Ctl ?_|((with_reducible refine Kof.use hK ?_);clear hK hE K E)|((with_reducible refine W_cond (fun h=>?_) (fun h=>?_))<;>(try(exfalso;assumption)))|(((with_reducible first|refine G_region fun K E hK hE=>?_|refine call_ret can39 (wq) ?_|refine call_ret can58 (wc) ?_|refine call_ret can59 (wb) ?_|refine call_ret can57 (ws) ?_|refine call_ret can60 (wv) ?_))<;>(try simp(disch:=omega) only[go_sem,seval,h2',h2'', *]))))
   all_goals(refine W_ret res25 hQ ?_)
   all_goals exact⟨_,_,Wk.refl _,Fg.refl _,rfl,rfl⟩
 ·have e1:newF n ds od=.error 1:=by unfold newF;rw[if_neg fun h=>h1 h.1]
  rw[if_neg h1]at wc
  refine hErr 1 e1 ?_
  clear e1 hErr wp wl wb
  generalize domsI ds=D at *
  refine G_enter Tryz.func25 rfl Tryz.ntmps25 rfl fun Q hQ hQe=>?_
  (repeat'(first|refine Ctl ?_|((with_reducible refine Kof.use hK ?_);clear hK hE K E)|((with_reducible refine W_cond (fun h=>?_) (fun h=>?_))<;>(try(exfalso;assumption)))|(((with_reducible first|refine G_region fun K E hK hE=>?_|refine call_ret can39 (wq) ?_|refine call_ret can58 (wc) ?_))<;>(try simp(disch:=omega) only[go_sem,seval, *]))))
  all_goals(refine W_ret res25 hQ ?_)
  all_goals exact⟨_,_,Wk.refl _,Fg.refl _,rfl,rfl⟩
attribute [-go_sem] p_and p_or p_shl p_shr
theorem Tells.swap {o:List (List Nat)}{d e:Nat}{S:List Nat→Prop}{g:(Nat→Bool)→Bool}(h:Tells o [d,e] S g):Tells o [e,d] (fun r=>S r.reverse) g:=fun x=>h x
theorem Tells.and {o:List (List Nat)}{ks:List Nat}{S S':List Nat→Prop}{f g:(Nat→Bool)→Bool}(h:Tells o ks S f)(h':Tells o ks S' g):Tells o ks (fun r=>S r∧S' r) (fun x=>f x && g x):=fun x=>by
 rw[Bool.and_eq_true,h x,h' x]
section
variable {o : List (List Nat)} {A B : List Par} {T : List Tri} {f g : (Nat → Bool) → Bool}
end
end Go.Proofs.YtohnaepcgnbaiaaGreatDoor
