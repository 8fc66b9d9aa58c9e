/- Walks. Conditions: in the statements. -/
import Derived.Test.YtohnaepcgnbaiaaGreatDoorJlValj
import Derived.Deep.AppendSrc
import Derived.Lib.FrozenHead
import Derived.Lib.Strings
import Derived.Lib.Builder
import Derived.Laws.IdiomStrings
import Derived.Laws.StructEq
import Derived.Laws.MakeOwn
import Derived.ChangeKeysEq
set_option maxHeartbeats 32000000
set_option linter.unusedSimpArgs false
set_option linter.unusedVariables false
namespace Go.Proofs.YtohnaepcgnbaiaaGreatDoor
open Go.RowKit
section
variable {P : Program} {N : Nat} {w0 w w' : World} {G G' : Gh} {s s' : St}
theorem LY (j sz:Nat):j / sz * sz+j % sz=j:=by
 have:=Nat.div_add_mod j sz
 rw[Nat.mul_comm]
 exact this
theorem R.row {b off len cap sz:Nat}{xs:Ta}{o:Own}(hS:Sim w0 G w s)(h:R G (.slice (some ⟨b,off,none⟩) len cap) (.lst xs o))(hpos:0<sz)(hsz:∀x,x∈xs->x.length=sz)(hl:0<len) :
  xs.length=len/\∃news:List Value,news.length=len * sz/\(∀(j:Nat) (u:Value),news[j]?=some u->w.cell? ((⟨b,off,none⟩:Addr).add j)=some u)/\(∀u,u∈news->u.oneCell'=true) /\
   (∀(j:Nat) (u:Value),news[j]?=some u->G.K b (off+j)=some u) /\
   ∀(i j:Nat) (x:Tb) (y:VV),xs[i]?=some x->x[j]?=some y->∃v,news[i * sz+j]?=some v/\R G v y:=by
 cases h with
 |emp a cap o ho=>omega
 |lst b off len cap sz' xs o f hlen hc hz h1 hK hR ho=>
  have hne:xs≠[]:=by intro e;subst e;simp at hlen;omega
  have hs':sz'=sz:=by
   obtain⟨x,hx⟩:=List.exists_mem_of_ne_nil xs hne
   rw[<- hz x hx,hsz x hx]
  subst hs'
  have hcell:∀j,j<len * sz'->G.K b (off+j)=some (f (j / sz') (j % sz')):=by
   intro j hj
   have h2:j / sz'<len:=(Nat.div_lt_iff_lt_mul hpos).2 hj
   have:=hK (j / sz') (j % sz') h2 (Nat.mod_lt _ hpos)
   rw[LY]at this
   exact this
  refine⟨hlen,(List.range (len * sz')).map fun j=>f (j / sz') (j % sz'),by simp,fun j u hu=>?_,fun u hu=>?_,fun j u hu=>?_,fun i j x y hx hy=>?_⟩
  ·rw[n_]at hu
   cases hj:(List.range (len * sz'))[j]? with
   |none=>simp[hj]at hu
   |some q=>
    rw[List.getElem?_range (by have:=(x_.1 hj).1;simpa using this)]at hj
    simp only[Option.some.injEq]at hj
    subst hj
    have hlt:j<len * sz':=by
     rcases Nat.lt_or_ge j (len * sz')with h'|h'
     ·exact h'
     ·rw[t_ (by simpa using h')]at hu;cases hu
    simp[List.getElem?_range hlt]at hu
    rw[cI,hS.K _ _ _ (hcell j hlt),hu]
  ·obtain⟨j,hj,rfl⟩:=A_.1 hu
   have hlt:j<len * sz':=by simpa using hj
   have h2:j / sz'<xs.length:=by rw[hlen];exact(Nat.div_lt_iff_lt_mul hpos).2 hlt
   have h3:j % sz'<(xs[j / sz']).length:=by rw[hz _ (List.getElem_mem h2)];exact Nat.mod_lt _ hpos
   rw[(hR (j / sz') (j % sz') _ _ (m_ h2) (m_ h3)).one]
   exact h1 _ (List.getElem_mem h2) _ (List.getElem_mem h3)
  ·have hlt:j<len * sz':=by
    have:=(x_.1 hu).1
    simpa using this
   rw[n_,List.getElem?_range hlt]at hu
   simp at hu
   rw[hcell j hlt,hu]
  ·have hi:i<xs.length:=(x_.1 hx).1
   have hj:j<x.length:=(x_.1 hy).1
   have hxl:=hz x (d_.2 ⟨i,hx⟩)
   have hlt:i * sz'+j<len * sz':=by
    have:=Nat.mul_le_mul_right sz' (show i+1<=len by omega)
    rw[Nat.succ_mul]at this
    omega
   refine⟨f i j,?_,hR i j x y hx hy⟩
   rw[n_,List.getElem?_range hlt]
   have e1:(i * sz'+j) / sz'=i:=by
    rw[Nat.mul_comm,Nat.mul_add_div hpos,Nat.div_eq_of_lt (by omega),Nat.add_zero]
   have e2:(i * sz'+j) % sz'=j:=by
    rw[Nat.mul_comm,Nat.mul_add_mod,Nat.mod_eq_of_lt (by omega)]
   simp[e1,e2]
def Gh.row (G:Gh)(b:Nat)(c:Th)(m cap sz:Nat):Gh:=
 ⟨fun x i=>if x=b then(if i<m then c[i]? else none)else G.K x i,fun x=>if x=b then some (cap,sz)else G.cap x⟩
theorem Sim.alloc_vec (hS:Sim w0 G w s)(T:TypeId)(c:Th)(n cap sz:Nat)(hc:c.size=cap * sz)(hn:n<=cap)(hm:cap<=maxLen) :
  Sim w0 (G.row w.heap.size c (n * sz) cap sz) (w.alloc (.cells c T)) (s.set w.heap.size (.vec T sz n))/\G.le (G.row w.heap.size c (n * sz) cap sz):=by
 have hle:G.le (G.row w.heap.size c (n * sz) cap sz):=by
  refine⟨fun b i v hv=>?_,fun b q hq=>?_⟩
  ·have:b≠w.heap.size:=by rintro rfl;rw[hS.K_fresh]at hv;cases hv
   simp[Gh.row,this,hv]
  ·have:b≠w.heap.size:=by rintro rfl;rw[hS.cap_fresh]at hq;cases hq
   simp[Gh.row,this,hq]
 refine⟨⟨hS.below.alloc hS.size_le _,fun b i v hk=>?_,fun b q hq=>?_,fun b=>?_,hS.gl,(hS.rows_new _ _ (fun _ _ _ e=>by cases e)).grow hle (fun b i hb=>by simp[Gh.row,hb]) (q_ _ _ _)⟩,hle⟩
 ·by_cases hb:b=w.heap.size
  ·subst hb
   simp only[Gh.row,if_true]at hk
   rw[World.cell?_alloc_new]
   split at hk
   ·exact hk
   ·cases hk
  ·simp only[Gh.row,hb,if_false]at hk
   exact cell?_alloc (hS.K b i v hk)
 ·by_cases hb:b=w.heap.size
  ·subst hb;simp
  ·simp only[Gh.row,hb,if_false]at hq
   have:=hS.cap b q hq
   simp;omega
 ·by_cases hb:b=w.heap.size
  ·subst hb
   rw[q_]
   refine⟨hS.size_le,c,cap,(0,0),by simp[Gh.row],heap_alloc_new w _,Nat.zero_le _,hc,hn,hm,fun i hi=>?_⟩
   simp only[Gh.row,if_true]
   rw[if_neg (by omega)]
  ·rw[j_ s _ hb]
   by_cases hlt:b<w.heap.size
   ·exact(hS.ok b).keep (heap_alloc_old w _ b hlt) hle (fun i=>by simp[Gh.row,hb])
   ·have:s b=.free:=by
     cases hc:s b with
     |free=>rfl
     |_=>exact absurd (hS.lt (b:=b) (by rw[hc];simp)) hlt
    rw[this];trivial
theorem R.of_row {G:Gh}{b:Nat}{c:List Value}{zs:Ta}{n cap sz:Nat}(hlen:zs.length=n)(hle:n<=cap)(hz:∀x,x∈zs->x.length=sz)(h1:∀x,x∈zs->∀y,y∈x->y.one=true)
  (hK:∀i,i<n * sz->G.K b i=c[i]?) (hcap:G.cap b=some (cap,sz)) (hc:n * sz<=c.length)
  (hR:∀(i j:Nat) (x:Tb) (y:VV),zs[i]?=some x->x[j]?=some y->∃v,c[i * sz+j]?=some v/\R G v y) :
  R G (.slice (some ⟨b,0,none⟩) n cap) (.lst zs (.at_ b)):=by
 refine .lst b 0 n cap sz zs (.at_ b) (fun i j=>(c[i * sz+j]?).getD default) hlen hle hz h1 (fun i j hi hj=>?_) (fun i j x y hx hy=>?_) (.inr (.inr ⟨rfl,rfl,hcap⟩))
 ·have hlt:i * sz+j<n * sz:=by
   have:=Nat.mul_le_mul_right sz (show i+1<=n by omega)
   rw[Nat.succ_mul]at this
   omega
  rw[Nat.zero_add,hK _ hlt]
  simp[show i * sz+j<c.length by omega]
 ·obtain⟨v,hv,hr⟩:=hR i j x y hx hy
  simp only[hv,Option.getD_some]
  exact hr
theorem pf {xs ys:Ta}{olds news:List Value}{n sz:Nat}{G:Gh}(hn:xs.length=n)(ho:olds.length=n * sz)
  (hx:∀(i j:Nat) (x:Tb) (y:VV),xs[i]?=some x->x[j]?=some y->∃v,olds[i * sz+j]?=some v/\R G v y)
  (hy:∀(i j:Nat) (x:Tb) (y:VV),ys[i]?=some x->x[j]?=some y->∃v,news[i * sz+j]?=some v/\R G v y) :
  ∀(i j:Nat) (x:Tb) (y:VV),(xs++ys)[i]?=some x->x[j]?=some y->∃v,(olds++news)[i * sz+j]?=some v/\R G v y:=by
 intro i j x y hi hj
 rcases Nat.lt_or_ge i n with h|h
 ·rw[g_ (by omega)]at hi
  obtain⟨v,hv,hr⟩:=hx i j x y hi hj
  exact⟨v,by rw[g_ (x_.1 hv).1];exact hv,hr⟩
 ·rw[h_ (by omega),hn]at hi
  obtain⟨v,hv,hr⟩:=hy (i - n) j x y hi hj
  have e:i * sz+j=olds.length+((i - n) * sz+j):=by
   rw[ho,Nat.sub_mul]
   have:=Nat.mul_le_mul_right sz h
   omega
  exact⟨v,by rw[e,h_ (by omega)];simpa using hv,hr⟩
theorem Sim.take_row (hS:Sim w0 G w s){e:TypeId}{olds news zs:List Value}{xys:Ta}{n cap sz:Nat}(hlen:xys.length=n)(hsz:∀x,x∈xys->x.length=sz)(h1:∀x,x∈xys->∀y,y∈x->y.one=true)
  (hc:(olds++news++zs).length=cap * sz) (hn:n<=cap) (hm:cap<=maxLen)
  (hR:∀(i j:Nat) (x:Tb) (y:VV),xys[i]?=some x->x[j]?=some y->∃v,(olds++news)[i * sz+j]?=some v/\R G v y) :
  ∃G',G.le G'/\Sim w0 G' (w.drew.alloc (.cells (olds.toArray++news.toArray++zs.toArray) e)) (s.set w.heap.size (.vec e sz n)) /\
   R G' (.slice (some ⟨w.heap.size,0,none⟩) n cap) (.lst xys (.at_ w.heap.size)):=by
 obtain⟨h2,h3⟩:=hS.drew.alloc_vec e (olds.toArray++news.toArray++zs.toArray) n cap sz (by simpa using hc) hn hm
 refine⟨_,h3,h2,R.of_row (c:=olds++news++zs) hlen hn hsz h1 (fun i hi=>?_) (by simp[Gh.row]) (by rw[hc];exact Nat.mul_le_mul_right _ hn) (fun i j x y hx hy=>?_)⟩
 ·simp only[Gh.row,World.size_drew,if_true]
  rw[if_pos hi]
  simp
 ·obtain⟨v,hv,hr⟩:=hR i j x y hx hy
  exact⟨v,by rw[g_ (x_.1 hv).1];exact hv,hr.mono h3⟩
theorem xd {v:Value}{xs:Ta}{o:Own}(h:R G v (.lst xs o)):∀x,x∈xs->∀y,y∈x->y.one=true:=by
 cases h with
 |emp=>intro x hx;simp at hx
 |lst b off len cap sz xs o f hl hc hz h1=>exact h1
theorem gN {T T' e:TypeId}{ty:TypeId}{i:TypeInfo}(hd:P.underlying T=some (.slice e))(hi:P.info? e=some i)(base:Option Addr)(n cap:Nat)(hn:n<=cap){u:Value}(hs:Src P i.size T' u 0 [] w) :
  (Builtin.append_ #[T,T'] ty #[.slice base n cap,u]).run P w=.ok (.slice base n cap) w:=by
 rcases hs.kind with ⟨e',hk⟩|hk<;>cases base<;>simp[Builtin.append_,run_underlying hd,run_underlying hk,sizeOf,typeInfo,hi,hs.len,hn,hs.cells,storeCells]
theorem gO {T T' ty e:TypeId}{i:TypeInfo}(hd:P.underlying T=some (.slice e))(hi:P.info? e=some i)(g sLen sCap:Nat)(cur:Th){fz:Nat×Nat}(hg:w.heap[g]?=some (.cells cur e fz))(hfz:fz.2<=sLen * i.size)
  {u:Value} {m:Nat} {news:List Value} (hs:Src P i.size T' u m news w) (hroom:sLen+m<=sCap) (hfit:sLen * i.size+news.length<=cur.size) :
  (Builtin.append_ #[T,T'] ty #[.slice (some ⟨g,0,none⟩) sLen sCap,u]).run P w =
   .ok (.slice (some ⟨g,0,none⟩) (sLen+m) sCap) (w.setRow g (cur.toList.take (sLen * i.size)++news++cur.toList.drop (sLen * i.size+news.length)).toArray):=by
 have hst:=run_storeCells_atF P g (sLen * i.size) e fz news 0 cur w hg (by simpa using hfz) (by simpa using hfit) hs.one
 simp only[Nat.add_zero]at hst
 rcases hs.kind with ⟨e',hk⟩|hk<;>simp[Builtin.append_,run_underlying hd,run_underlying hk,sizeOf,typeInfo,hi,hs.len,hroom,hs.cells,Addr.add_lit,hst]
theorem eL {T T' ty e:TypeId}{i:TypeInfo}{z:Value}(hd:P.underlying T=some (.slice e))(hi:P.info? e=some i)(hz:i.zero=some z)(base:Option Addr)(sLen sCap:Nat)(olds:List Value)
  (hold:(Builtin.firstCells i.size sLen (.slice base sLen sCap)).run P w.drew=.ok olds.toArray w.drew) {u:Value} {n:Nat} {news:List Value} (hs:Src P i.size T' u n news w)
  (hg:sCap<sLen+n) (h63:((sLen+n:Nat):Int)<=9223372036854775807) (hfit:Builtin.nextslicecap (sLen+n) sCap * i.bytes<=281474976710656) :
  (Builtin.append_ #[T,T'] ty #[.slice base sLen sCap,u]).run P w =
   .ok (.slice (some ⟨w.heap.size,0,none⟩) (sLen+n) (grownCap w (sLen+n) sCap e))
    (w.drew.alloc (.cells (olds.toArray++news.toArray++Builtin.zeroCells z.cells (grownCap w (sLen+n) sCap e - (sLen+n))) e)):=by
 have h:=run_append_grow_src (P:=P) w T T' ty e i z hd hi hz base sLen sCap olds hold u n news hs hg h63 hfit
 rw[h]
 congr 3
 simp
def VSrc (P:Program)(G:Gh)(w:World)(T':TypeId)(u:Value)(ys:Ta)(sz:Nat):Prop:=
 ∃news,Src P sz T' u ys.length news w/\(∀x,x∈ys->∀y,y∈x->y.one=true) /\
  ∀(i j:Nat) (x:Tb) (y:VV),ys[i]?=some x->x[j]?=some y->∃v,news[i * sz+j]?=some v/\R G v y
theorem VSrc.of_lst {T' e':TypeId}(hk:P.underlying T'=some (.slice e')){u:Value}{ys:Ta}{o:Own}{sz:Nat}(hS:Sim w0 G w s)(h:R G u (.lst ys o))(hpos:0<sz)(hys:∀y,y∈ys->y.length=sz):VSrc P G w T' u ys sz:=by
 by_cases h0:ys=[]
 ·subst h0
  obtain⟨a,c,rfl⟩:∃a c,u=.slice a 0 c:=by
   cases h with
   |emp a cap o ho=>exact⟨a,cap,rfl⟩
   |lst b off len cap sz xs o f hl=>simp at hl;subst hl;exact⟨_,_,rfl⟩
  refine⟨[],?_,by simp,by simp⟩
  cases a with
  |none=>exact Src.ofNil w hk c
  |some a=>exact Src.ofSlice w hk a 0 c [] (by simp) (by simp) (by simp)
 ·have hone:=xd h
  have hm0:0<ys.length:=List.length_pos_iff.2 h0
  cases h with
  |emp a cap o ho=>exact absurd rfl h0
  |lst bu offu lenu capu szu ys' ou fu hlu hcu hzu h1u hKu hRu hou=>
   obtain⟨_,news,hnl,hnc,hn1,_,hnr⟩:=R.row hS (R.lst bu offu lenu capu szu ys _ fu hlu hcu hzu h1u hKu hRu hou) hpos hys (by omega)
   rw[<- hlu]at hnl
   exact⟨news,by rw[<- hlu];exact Src.ofSlice w hk ⟨bu,offu,none⟩ ys.length capu news hnl hnc hn1,hone,hnr⟩
theorem VSrc.of_str {T':TypeId}(hk:P.underlying T'=some .string){u:Value}{l:TT}(h:R G u (.str l)):VSrc P G w T' u (cC l) 1:=by
 cases h with
 |str a=>
  refine⟨byteCells ⟨a⟩,?_,?_,?_⟩
  ·have:=Src.ofString (P:=P) w hk ⟨a⟩
   simpa [cC,ByteArray.size]using this
  ·intro x hx y hy
   simp only[cC,A_]at hx
   obtain⟨c,_,rfl⟩:=hx
   simp only[a_]at hy
   subst hy
   rfl
  ·intro i j x y hx hy
   simp only[cC,n_,Option.map_eq_some_iff]at hx
   obtain⟨c,hc,rfl⟩:=hx
   obtain⟨rfl,rfl⟩:j=0/\y=.int .u8 (c.toNat:Int):=by
    cases j with
    |zero=>simpa using hy.symm
    |succ j=>simp at hy
   exact⟨.int .u8 (c.toNat:Int),by simp only[byteCells,Nat.mul_one,Nat.add_zero,n_,hc];rfl,.int _ _⟩
theorem VSrc.of_str0 {T':TypeId}{sz:Nat}(hu:P.underlying T'=some .string){u:Value}(h:R G u (.str [])):VSrc P G w T' u (cC []) sz:=by
 generalize hl:([]:TT)=l at h
 cases h with
 |str a=>
  have e1:a=#[]:=by simpa using hl.symm
  subst e1
  refine⟨[],⟨.inr hu,fun _=>rfl,by simp[Builtin.firstCells,cC],by simp[Builtin.firstCells,cC],by simp[cC],by simp⟩,by simp[cC],by simp[cC]⟩
theorem lL {T T' e ty:TypeId}{v u:Value}{xs ys:Ta}{o:Own}{k:VV->St->Prop}(hS:Sim w0 G w s)(hv:R G v (.lst xs o))
  (hu:0<(qi P e).sz->(∀y,y∈ys->y.length=(qi P e).sz)->VSrc P G w T' u ys (qi P e).sz)
  (hk:(qi P T).k=.slice e) (h:fe k e (qi P e) xs ys o s) :
  ∃v' w' G' s' x',(Builtin.append_ #[T,T'] ty #[v,u]).run P w=.ok v' w'/\G.le G'/\Sim w0 G' w' s'/\R G' v' x'/\k x' s':=by
 obtain⟨hby,hmx,hys,hz,h⟩:=h
 have hd:=aZ hk
 obtain⟨d,i,z,_,hi,_,hs,hbt,hzz,hzs,hpos,_⟩:=mB (P:=P) e hz
 rw[hs]at hys hu
 rw[hbt]at hby
 obtain⟨news,hsrc,hone,hnr⟩:=hu hpos hys
 have hnl:=hsrc.newsLen
 have hn1:=hsrc.one
 have hdrew:∀{b:Addr} {n c:Nat} {olds:List Value},olds.length=n * i.size->(∀(j:Nat) (v:Value),olds[j]?=some v->w.cell? (b.add j)=some v) ->
   (Builtin.firstCells i.size n (.slice (some b) n c)).run P w.drew=.ok olds.toArray w.drew:=fun {b} {n} {c} {olds} h1 h2=>run_firstCells_some (P:=P) w.drew i.size n b n c olds h1 (by simpa using h2)
 have honex:=xd hv
 cases o with
 |no=>exact h.elim
 |full=>
  obtain⟨hxs,h0,h1⟩:=h
  rw[hs]at hxs
  by_cases hy:ys=[]
  ·subst hy
   have hnn:news=[]:=l_ (by simpa using hnl)
   subst hnn
   obtain⟨base,n,cap,hn,rfl⟩:∃base n cap,n<=cap/\v=.slice base n cap:=by
    cases hv with
    |emp a cap o ho=>exact⟨a,0,cap,Nat.zero_le _,rfl⟩
    |lst b off len cap sz xs o f hl hc=>exact⟨_,_,_,hc,rfl⟩
   exact⟨_,w,G,s,_,gN hd hi base n cap hn hsrc,Gh.le.refl G,hS,hv,h0 rfl⟩
  ·have hk1:=h1 hy w.heap.size hS.fresh
   rw[hs]at hk1
   have hm0:0<ys.length:=List.length_pos_iff.2 hy
   ·obtain⟨lenu,hlu⟩:∃lenu,ys.length=lenu:=⟨_,rfl⟩
    rw[hlu]at hnl hsrc
    cases hv with
    |emp a cap o ho=>
     rcases ho with ho|⟨_,rfl,rfl⟩
     ·cases ho
     ·simp only[List.length_nil,Nat.zero_add,List.nil_append]at hk1 hby hmx
      have hrun:=eL (P:=P) (w:=w) (ty:=ty) hd hi hzz none 0 0 [] (run_firstCells_none w.drew i.size 0 0 0) hsrc (by omega) (by omega) (by rw[Nat.zero_add,nextslicecap_zero (by omega),<- hlu];omega)
      simp only[Nat.zero_add]at hrun
      have hcap:=grownCap_ge w lenu 0 e
      obtain⟨G',h2,h3,h4⟩:=hS.take_row (e:=e) (olds:=[]) (news:=news) (zs:=(Builtin.zeroCells z.cells (grownCap w lenu 0 e - lenu)).toList) (xys:=ys) (n:=lenu) (cap:=grownCap w lenu 0 e) (sz:=i.size) hlu hys hone
       (by simp only[List.nil_append,p_,Array.length_toList,size_zeroCells,hzs,hnl,<- Nat.add_mul];congr 1;omega) hcap (grownCap_le_maxLen w lenu 0 e (by simp only[maxLen];omega)) (by simpa using hnr)
      rw[hlu]at hk1
      exact⟨_,_,G',_,_,hrun,h2,by simpa using h3,h4,hk1⟩
    |lst b off len cap sz xs' o f hl hc hz' h1' hK hR ho=>
     rcases ho with ho|⟨_,rfl,hpl⟩|⟨ho,_⟩
     ·cases ho
     ·have hole:∃olds:List Value,olds.length=cap * i.size/\(∀(j:Nat) (u:Value),olds[j]?=some u->w.cell? ((⟨b,off,none⟩:Addr).add j)=some u) /\
        ∀(i' j:Nat) (x:Tb) (y:VV),xs[i']?=some x->x[j]?=some y->∃v,olds[i' * i.size+j]?=some v/\R G v y:=by
       by_cases hx0:cap=0
       ·have hxe:xs=[]:=l_ (by omega)
        subst hxe
        exact⟨[],by simp[hx0],by simp,by simp⟩
       ·obtain⟨_,olds,hol,hoc,_,_,hor⟩:=R.row hS (R.lst b off _ _ sz xs .full f hl hc hz' h1' hK hR (.inr (.inl ⟨rfl,rfl,hpl⟩))) hpos hxs (by omega)
        exact⟨olds,hol,hoc,hor⟩
      obtain⟨olds,hol,hoc,hor⟩:=hole
      have hrun:=eL (P:=P) (w:=w) (ty:=ty) hd hi hzz (some ⟨b,off,none⟩) cap cap olds (hdrew hol hoc) hsrc (by omega) (by omega) (growslice_fits (by omega) (by rw[<- hlu,<- hl];exact hby))
      have hge:=grownCap_ge w (cap+lenu) cap e
      obtain⟨G',h2,h3,h4⟩:=hS.take_row (e:=e) (olds:=olds) (news:=news) (zs:=(Builtin.zeroCells z.cells (grownCap w (cap+lenu) cap e - (cap+lenu))).toList) (xys:=xs++ys) (n:=cap+lenu) (cap:=grownCap w (cap+lenu) cap e) (sz:=i.size)
       (by simp;omega) (fun x hx=>(f_.1 hx).elim (hxs x) (hys x)) (fun x hx=>(f_.1 hx).elim (honex x) (hone x))
       (by simp only[p_,Array.length_toList,size_zeroCells,hzs,hol,hnl,<- Nat.add_mul];congr 1;omega) hge (grownCap_le_maxLen w _ cap e (by simp only[maxLen];omega))
       (pf hl hol hor hnr)
      rw[hl,hlu]at hk1
      exact⟨_,_,G',_,_,hrun,h2,by simpa using h3,h4,hk1⟩
     ·cases ho
 |at_ b=>
  obtain⟨hb,h⟩:=h
  rw[hs]at hb h
  have ho:=hS.ok b
  rw[hb]at ho
  obtain⟨hB,c,cap,fz,hcap,hh,hfz,hcs,hnc,hcm,hKn⟩:=ho
  cases hv with
  |emp a cap o ho=>rcases ho with ho|⟨ho,_⟩<;>cases ho
  |lst b' off len cap' sz xs' o f hl hc hz' h1' hK hR ho=>
   rcases ho with ho|⟨ho,_⟩|⟨ho,rfl,hcap'⟩
   ·cases ho
   ·cases ho
   ·injection ho with ho
    subst ho
    rw[hcap]at hcap'
    injection hcap' with hcap'
    simp only[Prod.mk.injEq]at hcap'
    obtain⟨rfl,rfl⟩:=hcap'
    have hfree:∀b',b'=b\/s b'=.free->(s.set b .free).set b' (.vec e i.size (xs.length+ys.length))=(s.set b .free).set b' (.vec e i.size (xs.length+ys.length)):=fun _ _=>rfl
    by_cases hy:ys=[]
    ·subst hy
     have hnn:news=[]:=l_ (by simpa using hnl)
     subst hnn
     have hk1:=h b (.inl rfl)
     simp only[List.append_nil,List.length_nil,Nat.add_zero]at hk1
     rw[St.set_set,v_ _ _ _ hb]at hk1
     exact⟨_,w,G,s,_,gN hd hi _ len cap (by omega) hsrc,Gh.le.refl G,hS,.lst b 0 len cap i.size xs (.at_ b) f hl hc hz' h1' hK hR (.inr (.inr ⟨rfl,rfl,hcap⟩)),hk1⟩
    ·have hm0:0<ys.length:=List.length_pos_iff.2 hy
     ·obtain⟨lenu,hlu⟩:∃lenu,ys.length=lenu:=⟨_,rfl⟩
      rw[hlu]at hnl hsrc
      have hole:∃olds:List Value,olds.length=len * i.size/\(∀(j:Nat) (u:Value),olds[j]?=some u->w.cell? ((⟨b,0,none⟩:Addr).add j)=some u)/\(∀(j:Nat) (u:Value),olds[j]?=some u->G.K b (0+j)=some u) /\
        ∀(i' j:Nat) (x:Tb) (y:VV),xs[i']?=some x->x[j]?=some y->∃v,olds[i' * i.size+j]?=some v/\R G v y:=by
       by_cases hx0:len=0
       ·have hxe:xs=[]:=l_ (by omega)
        subst hxe
        exact⟨[],by simp[hx0],by simp,by simp,by simp⟩
       ·obtain⟨_,olds,hol,hoc,_,hok,hor⟩:=R.row hS (R.lst b 0 len cap i.size xs (.at_ b) f hl hc hz' h1' hK hR (.inr (.inr ⟨rfl,rfl,hcap⟩))) hpos hz' (by omega)
        exact⟨olds,hol,hoc,hok,hor⟩
      obtain⟨olds,hol,hoc,hok,hor⟩:=hole
      have hgr:=pf hl hol hor hnr
      have hlen:(xs++ys).length=len+lenu:=by simp;omega
      have hall:∀x,x∈xs++ys->x.length=i.size:=fun x hx=>(f_.1 hx).elim (hz' x) (hys x)
      have hallone:∀x,x∈xs++ys->∀y,y∈x->y.one=true:=fun x hx=>(f_.1 hx).elim (h1' x) (hone x)
      by_cases hroom:len+lenu<=cap
      ·have hk1:=h b (.inl rfl)
       rw[St.set_set]at hk1
       have hmul:len * i.size+lenu * i.size<=cap * i.size:=by rw[<- Nat.add_mul];exact Nat.mul_le_mul_right _ hroom
       have hfit:len * i.size+news.length<=c.size:=by rw[hnl,hcs];exact hmul
       have hrun:=gO (P:=P) (w:=w) (ty:=ty) hd hi b len cap c hh (by rw[<- hl];exact hfz) hsrc hroom hfit
       have hadd:(len+lenu) * i.size=len * i.size+lenu * i.size:=Nat.add_mul _ _ _
       have hcells:∀j,(c.toList.take (len * i.size)++news++c.toList.drop (len * i.size+news.length))[j]?=if j<len * i.size then c[j]? else if j<(len+lenu) * i.size then news[j - len * i.size]? else c[j]?:=by
        intro j
        have h1:(c.toList.take (len * i.size)).length=len * i.size:=by rw[r_,Array.length_toList];omega
        by_cases hj:j<len * i.size
        ·rw[if_pos hj,g_ (by rw[p_,h1];omega),g_ (by omega),List.getElem?_take,if_pos hj];simp
        ·rw[if_neg hj]
         by_cases hj2:j<(len+lenu) * i.size
         ·rw[if_pos hj2,g_ (by rw[p_,h1,hnl];omega),h_ (by omega),h1]
         ·rw[if_neg hj2,h_ (by rw[p_,h1,hnl];omega),p_,h1,List.getElem?_drop]
          simp only[hnl,Array.getElem?_toList]
          congr 1;omega
       generalize hrow:c.toList.take (len * i.size)++news++c.toList.drop (len * i.size+news.length)=row at hrun hcells
       have hrowlen:row.length=cap * i.size:=by
        rw[<- hrow]
        simp only[p_,r_,u_,Array.length_toList]
        omega
       have hold:∀j v,G.K b j=some v->row[j]?=some v/\j<len * i.size:=by
        intro j v hj
        have hlt:j<len * i.size:=by
         rcases Nat.lt_or_ge j (len * i.size)with h'|h'
         ·exact h'
         ·rw[hKn j (by rw[hl];exact h')]at hj;cases hj
        have:=hS.K b j v hj
        rw[cell_of_row w b j c e fz hh]at this
        exact⟨by rw[hcells,if_pos hlt];exact this,hlt⟩
       let G':Gh:=⟨fun x j=>if x=b then(if j<(len+lenu) * i.size then row[j]? else none)else G.K x j,G.cap⟩
       have hG':G.le G':=⟨fun x j v hv=>by
        by_cases hx:x=b
        ·subst hx
         obtain⟨h2,h3⟩:=hold j v hv
         simp only[G',if_true]
         rw[if_pos (by omega),h2]
        ·simp[G',hx,hv],fun _ _ h=>h⟩
       refine⟨_,_,G',_,_,hrun,hG',⟨hS.below.trans ⟨rfl,rfl,rfl,by simp,fun k hk'=>setRow_other w b k _ (by omega)⟩,fun x j v hv=>?_,fun x q hq=>by simpa using hS.cap x q hq,fun x=>?_,hS.gl,hS.rows.keep' hG' (by simp) (fun g _ hg=>⟨?_,setRow_other w b g _ ?_,fun j=>?_⟩) (fun x T xs rs hx=>?_)⟩,?_,hk1⟩
       rotate_left 2
       ·rw[j_ _ _ (by rintro rfl;rw[hb]at hg;cases hg)];exact hg
       ·rintro rfl;rw[hb]at hg;cases hg
       ·have hgb:¬ g=b:=by rintro rfl;rw[hb]at hg;cases hg
        simp[G',hgb]
       ·have hxb:x≠b:=by rintro rfl;rw[q_]at hx;cases hx
        rw[j_ _ _ hxb]at hx
        exact⟨hx,setRow_other w b x _ hxb⟩
       rotate_left 1
       ·by_cases hx:x=b
        ·subst hx
         simp only[G',if_true]at hv
         rw[cell_of_row _ x j _ e fz (setRow_heap w x c _ e _ hh)]
         split at hv
         ·simpa using hv
         ·cases hv
        ·simp only[G',hx,if_false]at hv
         exact(World.cell?_of_block (w:=w) (setRow_other w b x _ hx)).trans (hS.K x j v hv)
       ·by_cases hx:x=b
        ·subst hx
         rw[q_]
         refine⟨hB,row.toArray,cap,fz,hcap,setRow_heap w x c _ e _ hh,Nat.le_trans hfz (Nat.mul_le_mul_right _ (by omega)),by simpa using hrowlen,by omega,hcm,fun j hj=>?_⟩
         simp only[G',if_true]
         rw[if_neg (by rw[<- hlen,p_];omega)]
        ·rw[j_ _ _ hx]
         exact(hS.ok x).keep (setRow_other w b x _ hx) hG' (fun j=>by simp[G',hx])
       ·refine R.of_row (c:=row) hlen hroom hall hallone (fun j hj=>by simp only[G',if_true];rw[if_pos hj]) hcap (by rw[hrowlen];exact Nat.mul_le_mul_right _ hroom) (fun a b x y hx hy=>?_)
        obtain⟨v,hv,hr⟩:=hgr a b x y hx hy
        refine⟨v,?_,hr.mono hG'⟩
        rw[hcells]
        rcases Nat.lt_or_ge (a * i.size+b) (len * i.size)with h'|h'
        ·rw[if_pos h']
         rw[g_ (by omega)]at hv
         have:=hoc _ _ hv
         rw[cI,Nat.zero_add,cell_of_row w _ _ c e fz hh]at this
         exact this
        ·rw[if_neg (by omega)]
         rw[h_ (by omega),hol]at hv
         have hlt:=(x_.1 hv).1
         rw[if_pos (by omega)]
         exact hv
      ·have hk1:=h w.heap.size (.inr hS.fresh)
       have hrun:=eL (P:=P) (w:=w) (ty:=ty) hd hi hzz (some ⟨b,0,none⟩) len cap olds (hdrew hol hoc) hsrc (by omega) (by omega) (growslice_fits (by omega) (by rw[<- hlu,<- hl];exact hby))
       have hge:=grownCap_ge w (len+lenu) cap e
       obtain⟨G',h2,h3,h4⟩:=(hS.forget (Fg.set_free s b)).take_row (e:=e) (olds:=olds) (news:=news) (zs:=(Builtin.zeroCells z.cells (grownCap w (len+lenu) cap e - (len+lenu))).toList) (xys:=xs++ys) (n:=len+lenu) (cap:=grownCap w (len+lenu) cap e) (sz:=i.size)
        hlen hall hallone
        (by simp only[p_,Array.length_toList,size_zeroCells,hzs,hol,hnl,<- Nat.add_mul];congr 1;omega) hge (grownCap_le_maxLen w _ cap e (by simp only[maxLen];omega)) hgr
       rw[hl,hlu]at hk1
       exact⟨_,_,G',_,_,hrun,h2,by simpa using h3,h4,hk1⟩
theorem ip {sz:Nat}:∀{ys:Ta},(∀y,y∈ys->y.length=sz)->ys.flatten.length=ys.length * sz
 |[],_=>by simp
 |y::ys,h=>by
  rw[List.flatten_cons,p_,ip fun z hz=>h z (by simp[hz]),h y (by simp),List.length_cons,Nat.succ_mul];omega
theorem mA {sz:Nat}:∀{ys:Ta},(∀y,y∈ys->y.length=sz)->∀{k:Nat} {x:VV},ys.flatten[k]?=some x->∃i j z,ys[i]?=some z/\z[j]?=some x/\k=i * sz+j
 |[],_,k,x,h=>by simp at h
 |y::ys,hs,k,x,h=>by
  have hy:=hs y (by simp)
  rw[List.flatten_cons]at h
  by_cases hk:k<y.length
  ·rw[g_ hk]at h
   exact⟨0,k,y,rfl,h,by omega⟩
  ·rw[h_ (by omega)]at h
   obtain⟨i,j,z,h1,h2,h3⟩:=mA (fun z hz=>hs z (by simp[hz])) h
   exact⟨i+1,j,z,by simpa using h1,h2,by rw[Nat.succ_mul];omega⟩
theorem nH {G:Gh}{xs:Tb}{ys:Ta}{olds news:List Value}{sz:Nat}(ho:olds.length=xs.length)(hys:∀y,y∈ys->y.length=sz)(hone:∀x,x∈ys->∀y,y∈x->y.one=true)
  (hx:∀(i:Nat) (x:VV),xs[i]?=some x->x.one=true/\∃v,olds[i]?=some v/\R G v x)
  (hy:∀(i j:Nat) (x:Tb) (y:VV),ys[i]?=some x->x[j]?=some y->∃v,news[i * sz+j]?=some v/\R G v y) :
  ∀(i:Nat) (x:VV),(xs++ys.flatten)[i]?=some x->x.one=true/\∃v,(olds++news)[i]?=some v/\R G v x:=by
 intro i x hi
 by_cases h:i<xs.length
 ·rw[g_ h]at hi
  obtain⟨h1,v,hv,hr⟩:=hx i x hi
  exact⟨h1,v,by rw[g_ (x_.1 hv).1];exact hv,hr⟩
 ·rw[h_ (by omega)]at hi
  obtain⟨a,b,z,h1,h2,h3⟩:=mA hys hi
  obtain⟨v,hv,hr⟩:=hy a b z x h1 h2
  refine⟨hone z (d_.2 ⟨a,h1⟩) x (d_.2 ⟨b,h2⟩),v,?_,hr⟩
  rw[h_ (by omega),ho,h3]
  exact hv
theorem qQ {T T' e ty:TypeId}{v u:Value}{b n:Nat}{ys:Ta}{k:VV->St->Prop}(hS:Sim w0 G w s)(hv:R G v (.mrw b n))
  (hu:0<(qi P e).sz->(∀y,y∈ys->y.length=(qi P e).sz)->VSrc P G w T' u ys (qi P e).sz)
  (hk:(qi P T).k=.slice e) (h:gW k e (qi P e) b n ys s) :
  ∃v' w' G' s' x',(Builtin.append_ #[T,T'] ty #[v,u]).run P w=.ok v' w'/\G.le G'/\Sim w0 G' w' s'/\R G' v' x'/\k x' s':=by
 obtain⟨xs,hb,hxl,hby,hmx,hys,hz,h⟩:=h
 have hd:=aZ hk
 obtain⟨d,i,z,_,hi,_,hs,hbt,hzz,hzs,hpos,_⟩:=mB (P:=P) e hz
 rw[hs]at hys hu hxl
 rw[hbt]at hby
 rw[hs]at hb h
 obtain⟨news,hsrc,hone,hnr⟩:=hu hpos hys
 have hnl:=hsrc.newsLen
 have hn1:=hsrc.one
 have hfl:=ip hys
 cases hv with
 |mrw b' n' cap sz' hq hn=>
  have hok:=hS.ok b
  rw[hb]at hok
  obtain⟨hB,hKn,c,cap',hc,hq',hcs,hcl,hcm,hx⟩:=hok
  rw[hq]at hq'
  injection hq' with hq'
  injection hq' with hq1 hq2
  subst hq1
  subst hq2
  have hnc:n * i.size<=c.size:=by rw[hcs];exact Nat.mul_le_mul_right _ hn
  by_cases hroom:n+ys.length<=cap
  ·have hfit:n * i.size+news.length<=c.size:=by rw[hnl,hcs,<- Nat.add_mul];exact Nat.mul_le_mul_right _ hroom
   have hrun:=gO (P:=P) (w:=w) (ty:=ty) hd hi b n cap c hc (by simp) hsrc hroom hfit
   have hset:=hS.set_row hb (w.setRow b (c.toList.take (n * i.size)++news++c.toList.drop (n * i.size+news.length)).toArray) c (c.toList.take (n * i.size)++news++c.toList.drop (n * i.size+news.length)).toArray hc
    (ys:=xs++ys.flatten) ⟨rfl,rfl,rfl,by simp,fun k hk=>setRow_other w b k _ (by omega)⟩ (by simp) (setRow_heap w b c _ e _ hc) (fun k hk=>setRow_other w b k _ hk)
    (by simp only[List.size_toArray,p_,r_,u_,Array.length_toList];omega)
    (by rw[p_,hxl,hfl,hcs,<- Nat.add_mul];exact Nat.mul_le_mul_right _ hroom)
    (fun j y hy=>by
     obtain⟨h1,v,hv,hr⟩:=nH (G:=G) (olds:=c.toList.take (n * i.size)) (news:=news) (sz:=i.size) (by rw[r_,Array.length_toList,hxl];omega) hys hone
      (fun a x ha=>by
       obtain⟨h1,v,hv,hr⟩:=hx a x ha
       have hal:=(x_.1 ha).1
       exact⟨h1,v,by rw[List.getElem?_take,if_pos (by omega)];simpa using hv,hr⟩) hnr j y hy
     refine⟨h1,v,?_,hr⟩
     rw[List.getElem?_toArray,g_ (x_.1 hv).1]
     exact hv)
   refine⟨_,_,G,_,_,hrun,Gh.le.refl G,?_,R.mrw b (n+ys.length) cap i.size hq hroom,h b (.inl rfl)⟩
   rw[St.set_set]
   exact hset
  ·have holds:∀(j:Nat) (v:Value),(c.toList.take (n * i.size))[j]?=some v->w.cell? ((⟨b,0,none⟩:Addr).add j)=some v:=fun j v hj=>by
    rw[List.getElem?_take]at hj
    split at hj
    ·rw[cI,Nat.zero_add,cell_of_row w b j c e (0,0) hc];simpa using hj
    ·cases hj
   have hol:(c.toList.take (n * i.size)).length=n * i.size:=by rw[r_,Array.length_toList];omega
   have hrun:=eL (P:=P) (w:=w) (ty:=ty) hd hi hzz (some ⟨b,0,none⟩) n cap (c.toList.take (n * i.size))
    (run_firstCells_some (P:=P) w.drew i.size n ⟨b,0,none⟩ n cap (c.toList.take (n * i.size)) hol (by simpa using holds)) hsrc (by omega) (by omega) (growslice_fits (by omega) hby)
   have hge:n+ys.length<=grownCap w (n+ys.length) cap e:=by
    have:=grownCap_ge w (n+ys.length) cap e
    omega
   obtain⟨G',hG,hq',hS'⟩:=hS.drew.alloc_row e ((c.toList.take (n * i.size)).toArray++news.toArray++Builtin.zeroCells z.cells (grownCap w (n+ys.length) cap e - (n+ys.length))) (xs++ys.flatten) (grownCap w (n+ys.length) cap e) i.size
    (by
     simp only[Array.size_append,List.size_toArray,hol,hnl,size_zeroCells,hzs,<- Nat.add_mul]
     congr 1;omega)
    (by rw[p_,hxl,hfl,<- Nat.add_mul];exact Nat.mul_le_mul_right _ hge)
    (grownCap_le_maxLen w _ cap e (by simp only[maxLen];omega))
    (fun j y hy=>by
     obtain⟨h1,v,hv,hr⟩:=nH (G:=G) (olds:=c.toList.take (n * i.size)) (news:=news) (sz:=i.size) (by rw[hol,hxl]) hys hone
      (fun a x ha=>by
       obtain⟨h1,v,hv,hr⟩:=hx a x ha
       have hal:=(x_.1 ha).1
       exact⟨h1,v,by rw[List.getElem?_take,if_pos (by omega)];simpa using hv,hr⟩) hnr j y hy
     refine⟨h1,v,?_,hr⟩
     rw[<- Array.getElem?_toList]
     simp only[Array.toList_append]
     rw[g_ (x_.1 hv).1]
     exact hv)
   refine⟨_,_,G',_,_,hrun,hG,hS'.forget ?_,R.mrw w.heap.size (n+ys.length) _ i.size (by simpa using hq') hge,h w.heap.size (.inr hS.fresh)⟩
   intro x
   by_cases h1:x=w.heap.size
   ·exact .inr (by simp[St.set,h1])
   ·by_cases h2:x=b
    ·exact .inl (by simp[St.set,h1,h2];intro e;exact absurd (e ▸ h2 ▸ rfl:x=w.heap.size) h1)
    ·exact .inr (by simp[St.set,h1,h2])
theorem qR {T T' e ty:TypeId}{v u:Value}{ys:Ta}{k:VV->St->Prop}(hS:Sim w0 G w s)(hv:R G v (.raw (.slice none 0 0)))
  (hu:0<(qi P e).sz->(∀y,y∈ys->y.length=(qi P e).sz)->VSrc P G w T' u ys (qi P e).sz)
  (hk:(qi P T).k=.slice e) (h:gX k e (qi P e) ys s) :
  ∃v' w' G' s' x',(Builtin.append_ #[T,T'] ty #[v,u]).run P w=.ok v' w'/\G.le G'/\Sim w0 G' w' s'/\R G' v' x'/\k x' s':=by
 obtain⟨hne,hby,hmx,hys,hz,h⟩:=h
 have hd:=aZ hk
 obtain⟨d,i,z,_,hi,_,hs,hbt,hzz,hzs,hpos,_⟩:=mB (P:=P) e hz
 rw[hs]at hys hu
 rw[hbt]at hby
 rw[hs]at h
 obtain⟨news,hsrc,hone,hnr⟩:=hu hpos hys
 have hnl:=hsrc.newsLen
 have hfl:=ip hys
 have hl0:0<ys.length:=List.length_pos_iff.2 hne
 cases hv
 have hrun:=eL (P:=P) (w:=w) (ty:=ty) hd hi hzz none 0 0 [] (run_firstCells_none w.drew i.size 0 0 0) hsrc (by omega) (by omega) (by rw[Nat.zero_add,nextslicecap_zero (by omega)];omega)
 simp only[Nat.zero_add]at hrun
 have hge:ys.length<=grownCap w ys.length 0 e:=by
  have:=grownCap_ge w ys.length 0 e
  omega
 obtain⟨G',hG,hq',hS'⟩:=hS.drew.alloc_row e (([]:List Value).toArray++news.toArray++Builtin.zeroCells z.cells (grownCap w ys.length 0 e - ys.length)) ys.flatten (grownCap w ys.length 0 e) i.size
  (by
   simp only[Array.size_append,List.size_toArray,List.length_nil,Nat.zero_add,hnl,size_zeroCells,hzs,<- Nat.add_mul]
   congr 1;omega)
  (by rw[hfl];exact Nat.mul_le_mul_right _ hge)
  (grownCap_le_maxLen w _ 0 e (by simp only[maxLen];omega))
  (fun j y hy=>by
   obtain⟨h1,v,hv,hr⟩:=nH (G:=G) (xs:=[]) (olds:=[]) (news:=news) (sz:=i.size) rfl hys hone (fun a x ha=>by simp at ha) hnr j y (by simpa using hy)
   refine⟨h1,v,?_,hr⟩
   rw[<- Array.getElem?_toList]
   simp only[Array.toList_append,List.nil_append]at hv ⊢
   rw[g_ (by simpa using(x_.1 hv).1)]
   simpa using hv)
 exact⟨_,_,G',_,_,hrun,hG,hS',R.mrw w.heap.size ys.length _ i.size (by simpa using hq') hge,h w.heap.size hS.fresh⟩
end
section
variable {P : Program} {N : Nat} {w0 w w' : World} {G G' : Gh} {s s' : St}
theorem qq {kd:TypeDesc}{a b:Value}{x y:VV}{t:Bool}(hk:dN (cg kd) x=true)(ha:R G a x)(hb:R G b y)(h:fW x y=some t) :
  Instr.sameNow kd a b=some t:=by
 unfold fW at h
 split at h
 ·simp only[Option.some.injEq]at h
  subst h
  cases ha with
  |str a=>
   cases hb with
   |str b=>
    cases kd<;>simp[cg,dN]at hk
    simp only[Instr.sameNow,Option.some.injEq]
    rw[Bool.eq_iff_iff,MapKept.bytes_beq,decide_eq_true_eq]
    constructor
    ·intro e;injection e with e;rw[e]
    ·intro e;rw[Array.toList_inj.1 e]
 ·rename_i k x k' y
  split at h
  ·rename_i e
   subst e
   simp only[Option.some.injEq]at h
   subst h
   cases ha
   cases hb
   cases kd<;>simp[cg,dN]at hk
   simp only[Instr.sameNow,if_true,Option.some.injEq]
   rw[Bool.eq_iff_iff,beq_iff_eq,decide_eq_true_eq]
  ·cases h
 ·cases h
def RM (G:Gh)(es:List MapEntry)(xs:Tc):Prop:=
 es.length=xs.length/\∀(i:Nat) (k x:VV),xs[i]?=some (k,x)->∃e,es[i]?=some e/\R G e.key k/\R G e.val x
theorem RM.tail {e:MapEntry}{es:List MapEntry}{x:VV×VV}{xs:Tc}(h:RM G (e::es) (x::xs)):RM G es xs:=
 ⟨by have:=h.1;simpa using this,fun i k y hi=>by simpa using h.2 (i+1) k y (by simpa using hi)⟩
theorem RM.head {e:MapEntry}{es:List MapEntry}{k x:VV}{xs:Tc}(h:RM G (e::es) ((k,x)::xs)):R G e.key k/\R G e.val x:=by
 obtain⟨e',he,h1,h2⟩:=h.2 0 k x rfl
 simp at he
 subst he
 exact⟨h1,h2⟩
theorem sC {kd:TypeDesc}{a:Value}{x:VV}(hk:dN (cg kd) x=true)(ha:R G a x) :
  ∀(xs:Tc) (es:List MapEntry) (n:Nat) (r:Option VV),RM G es xs->nX x xs=some r ->
   ∃q,Instr.findNow kd a es n=some q/\(match r,q with|some y,some (_,v)=>R G v y|none,none=>True|_,_=>False)
 |[],[],n,r,_,h=>by
  simp only[nX,Option.some.injEq]at h
  subst h
  exact⟨none,rfl,trivial⟩
 |[],e::es,n,r,hm,_=>by have:=hm.1;simp at this
 |y::xs,[],n,r,hm,_=>by have:=hm.1;simp at this
 |(k,y)::xs,e::es,n,r,hm,h=>by
  obtain⟨h1,h2⟩:=hm.head
  simp only[nX]at h
  cases hq:fW x k with
  |none=>simp[hq]at h
  |some t=>
   have hn:=qq hk ha h1 hq
   cases t with
   |true=>
    simp only[hq,Option.some.injEq]at h
    subst h
    exact⟨some (n,e.val),by simp[Instr.findNow,hn],h2⟩
   |false=>
    simp only[hq]at h
    obtain⟨q,hq',hr⟩:=sC hk ha xs es (n+1) r hm.tail h
    exact⟨q,by simp[Instr.findNow,hn,hq'],hr⟩
theorem eC {T:TypeId}{kd:TypeDesc}{x:VV}{a:Value}(hd:P.underlying T=some kd)(hk:dN (cg kd) x=true)(b:Bool)(n:Nat) :
  (Instr.checkKey b (n+1) T a).run P w=.ok () w:=by
 cases kd<;>simp[cg,dN]at hk<;>simp[Instr.checkKey,run_underlying hd]
theorem s9 {T:TypeId}{x:VV}(hk:dN (qi P T).k x=true) :
  ∃kd,P.underlying T=some kd/\dN (cg kd) x=true:=by
 obtain⟨d,i,hd,hi,hkT,_⟩:=aN (P:=P) T (.inr (.inl (by intro e;rw[e]at hk;cases x<;>simp[dN]at hk)))
 exact⟨d,hd,by rw[hkT]at hk;exact hk⟩
theorem sA {T:TypeId}{m key:Value}{x k y:VV}{ok:Bool}(hS:Sim w0 G w s)(hm:R G m x)(hkey:R G key k)
  (h:ez (qi P T) (qi P (aE (qi P T))) (qi P (jr (qi P T))) x k ok s=some y):∃v,(Instr.lookup T m key ok).run P w=.ok v w/\R G v y:=by
 unfold ez at h
 split at h
 ·rename_i kt et b hk
  split at h
  ·rename_i es hb hkk
   have ho:=hS.ok b
   rw[hb]at ho
   obtain⟨_,c,clock,hh,hsz,hrel⟩:=ho
   have hd:=pX hk
   have hek:aE (qi P T)=et:=by simp[aE,hk]
   have hkt:jr (qi P T)=kt:=by simp[jr,hk]
   rw[hek]at h
   rw[hkt]at hkk
   obtain⟨kd,hkd,hkk'⟩:=s9 (P:=P) hkk
   cases hm
   have hRM:RM G c.toList es:=⟨by simpa using hsz.1,fun i k x hi=>by simpa using hrel i k x hi⟩
   have hget:(getObj b).run P w=.ok (.map c clock) w:=by simp[getObj,Sem.run,hh]
   cases hg:nX k es with
   |none=>simp[hg]at h
   |some r=>
    obtain⟨q,hq,hr⟩:=sC hkk' hkey es c.toList 0 r hRM hg
    cases r with
    |some z=>
     simp only[hg,Option.some.injEq]at h
     cases q with
     |none=>exact hr.elim
     |some q=>
      obtain⟨n,v⟩:=q
      subst h
      refine⟨if ok then .tuple #[v,.bool true] else v,?_,?_⟩
      ·unfold Instr.lookup
       simp only[Sem.run_bind,run_underlying hd,Result.andThen_ok,hget,Sem.run_pure,eC hkd hkk',Instr.findKey,run_underlying hkd,hq]
      ·cases ok with
       |true=>exact .tup _ _ rfl (fun j v y hv hy=>by
         match j with
         |0=>simp at hv hy;subst hv;subst hy;exact hr
         |1=>simp at hv hy;subst hv;subst hy;exact .bool _
         |j+2=>simp at hv)
       |false=>exact hr
    |none=>
     cases q with
     |some q=>exact hr.elim
     |none=>
      simp only[hg]at h
      cases hz:wg (qi P et)with
      |none=>simp[hz]at h
      |some z=>
       simp only[hz,Option.map_some,Option.some.injEq]at h
       subst h
       unfold wg at hz
       split at hz
       ·rename_i hzok
        obtain⟨zv,i,d,hi,hde,hke,hs,hzz,hpos,hzs,⟨hag,hnt⟩,hrl⟩:=RLs.zero (P:=P) (G:=G) hzok
        have hzr:R G zv z:=by
         rw[hke]at hz
         cases hd':(cg d).agg with
         |true=>
          rw[hd']at hz hag
          simp only[if_true,Option.some.injEq]at hz
          subst hz
          have hone:zv.oneCell'=false:=by cases h:zv.oneCell'<;>simp[h]at hag ⊢
          cases zv with
          |agg cs=>exact .agg cs _ hrl.1 hrl.2.1 hrl.2.2
          |tuple vs=>simp[rn]at hnt
          |_=>simp[Value.oneCell']at hone
         |false=>
          rw[hd']at hz hag
          simp only[Bool.false_eq_true,if_false]at hz
          have hone:zv.oneCell'=true:=by cases h:zv.oneCell'<;>simp[h]at hag ⊢
          have hc:zv.cells=#[zv]:=by cases zv<;>first|rfl|(simp[Value.oneCell']at hone)
          exact hrl.2.2 0 zv z (by rw[hc];rfl) hz
        refine⟨if ok then .tuple #[zv,.bool false] else zv,?_,?_⟩
        ·unfold Instr.lookup
         simp only[Sem.run_bind,run_underlying hd,Result.andThen_ok,hget,Sem.run_pure,eC hkd hkk',Instr.findKey,run_underlying hkd,hq,zeroValue,typeInfo,run_program,hi,hzz]
        ·cases ok with
         |true=>exact .tup _ _ rfl (fun j v y hv hy=>by
           match j with
           |0=>simp at hv hy;subst hv;subst hy;exact hzr
           |1=>simp at hv hy;subst hv;subst hy;exact .bool _
           |j+2=>simp at hv)
         |false=>exact hzr
       ·cases hz
  ·cases h
 ·cases h
theorem A4 {x k:VV}{a b:Value}(hq:fW x k=some false)(ha:R G a x)(hb:R G b k):b≠a:=by
 rintro rfl
 unfold fW at hq
 split at hq
 ·rename_i s t
  simp only[Option.some.injEq,decide_eq_false_iff_not]at hq
  generalize h1:VV.str s=u at ha
  cases ha<;>cases h1
  generalize h2:VV.str t=u2 at hb
  cases hb<;>first|(cases h2;exact hq rfl)|cases h2
 ·rename_i k1 m k2 m2
  split at hq
  ·simp only[Option.some.injEq,decide_eq_false_iff_not]at hq
   generalize h1:VV.int k1 m=u at ha
   cases ha<;>cases h1
   cases hb
   exact hq rfl
  ·cases hq
 ·cases hq
theorem EF {x:VV}{a b:Value}{kd:TypeDesc}(hk:dN (cg kd) x=true)(ha:R G a x)(hb:R G b x):a=b:=by
 cases x with
 |int k n=>cases ha;cases hb;rfl
 |str l=>
  generalize hl:l=l' at hb
  cases ha with
  |str a=>
   cases hb with
   |str b=>
    obtain rfl:a=b:=Array.toList_inj.1 hl
    rfl
 |_=>cases kd<;>simp[cg,dN]at hk
theorem sB {kd:TypeDesc}{a v:Value}{x y:VV}(hk:dN (cg kd) x=true)(ha:R G a x)(hv:R G v y) :
  ∀(xs:Tc) (es:List MapEntry) (n:Nat) (zs:Tc),RM G es xs->im x y xs=some zs ->
   (∃i u,Instr.findNow kd a es n=some (some (n+i,u))/\∃e,es[i]?=some e/\R G e.key x/\∀born,RM G (es.set i ⟨a,v,born⟩) zs)\/(Instr.findNow kd a es n=some none/\(∀e,e∈es->e.key≠a)/\∀born,RM G (es++[⟨a,v,born⟩]) zs)
 |[],[],n,zs,_,h=>by
  simp only[im,Option.some.injEq]at h
  subst h
  refine .inr ⟨rfl,(fun e he=>by cases he),fun born=>⟨rfl,fun i k z hi=>?_⟩⟩
  cases i with
  |zero=>simp at hi;obtain⟨rfl,rfl⟩:=hi;exact⟨_,rfl,ha,hv⟩
  |succ i=>simp at hi
 |[],e::es,n,r,hm,_=>by have:=hm.1;simp at this
 |y::xs,[],n,r,hm,_=>by have:=hm.1;simp at this
 |(k,z)::xs,e::es,n,zs,hm,h=>by
  obtain⟨h1,h2⟩:=hm.head
  simp only[im]at h
  cases hq:fW x k with
  |none=>simp[hq]at h
  |some t=>
   have hn:=qq hk ha h1 hq
   cases t with
   |true=>
    simp only[hq,Option.some.injEq]at h
    subst h
    have hxk:R G e.key x:=by
     unfold fW at hq
     split at hq
     ·simp at hq;subst hq;exact h1
     ·split at hq
      ·rename_i e';subst e';simp at hq;subst hq;exact h1
      ·cases hq
     ·cases hq
    refine .inl ⟨0,e.val,by simp[Instr.findNow,hn],e,rfl,hxk,fun born=>⟨by simpa using hm.tail.1,fun i k' z' hi=>?_⟩⟩
    cases i with
    |zero=>simp at hi;obtain⟨rfl,rfl⟩:=hi;exact⟨_,rfl,ha,hv⟩
    |succ i=>simpa using hm.tail.2 i k' z' (by simpa using hi)
   |false=>
    simp only[hq]at h
    cases hr:im x y xs with
    |none=>simp[hr]at h
    |some ys=>
     simp only[hr,Option.map_some,Option.some.injEq]at h
     subst h
     have cons:∀es',RM G es' ys->RM G (e::es') ((k,z)::ys):=fun es' he=>⟨by simpa using he.1,fun i k' z' hi=>by
      cases i with
      |zero=>simp at hi;obtain⟨rfl,rfl⟩:=hi;exact⟨e,rfl,h1,h2⟩
      |succ i=>simpa using he.2 i k' z' (by simpa using hi)⟩
     rcases sB hk ha hv xs es (n+1) ys hm.tail hr with ⟨i,u,hf,e',he',hke,hall⟩|⟨hf,hno,hall⟩
     ·exact .inl ⟨i+1,u,by simp only[Instr.findNow,hn,hf];congr 3;omega,e',by simpa using he',hke,fun born=>by simpa using cons _ (hall born)⟩
     ·exact .inr ⟨by simp[Instr.findNow,hn,hf],fun e2 he2=>by
       rcases AT.1 he2 with rfl|he2
       ·exact A4 hq ha h1
       ·exact hno e2 he2,fun born=>by simpa using cons _ (hall born)⟩
theorem A3 {x:VV}{a b:Value}{kd:TypeDesc}(hk:dN (cg kd) x=true)(ha:R G a x)(hb:R G b x):(Instr.keyThatStays b a).run P w=.ok a w:=by
 cases x with
 |int k n=>
  cases ha;cases hb
  simp[Instr.keyThatStays,Instr.sameBits]
 |str l=>
  generalize hl:l=l' at hb
  cases ha with
  |str a=>
   cases hb with
   |str b=>
    obtain rfl:a=b:=Array.toList_inj.1 hl
    have:(Instr.sameBits 10000 (.string ⟨a⟩) (.string ⟨a⟩))=true:=by
     rw[Instr.sameBits]
     exact(MapKept.bytes_beq _ _).2 rfl
    simp[Instr.keyThatStays,this]
 |_=>cases kd<;>simp[cg,dN]at hk
theorem Sim.set_map (h:Sim w0 G w s){b:Nat}{xs ys:Tc}(hb:s b=.map xs)(c':Array MapEntry)(clock:Nat)(hm:RM G c'.toList ys)(hst:MapKept.Stamped c' clock) :
  Sim w0 G { w with heap:=w.heap.setIfInBounds b (.map c' clock) } (s.set b (.map ys)):=by
 have ho:=h.ok b
 rw[hb]at ho
 obtain⟨hB,c,cl,hh,hsz,_⟩:=ho
 have hlt:b<w.heap.size:=(Array.getElem?_eq_some_iff.1 hh).1
 have hother:∀k,k≠b->(w.heap.setIfInBounds b (.map c' clock))[k]?=w.heap[k]?:=fun k hk=>Array.getElem?_setIfInBounds_ne (Ne.symm hk)
 have hn:∀i,G.K b i=none:=fun i=>by
  cases hk:G.K b i with
  |none=>rfl
  |some v=>
   have:=h.K b i v hk
   simp[World.cell?,hh]at this
 refine⟨h.below.trans ⟨rfl,rfl,rfl,by simp,fun k hk=>hother k (by omega)⟩,fun x i v hk=>?_,fun x q hq=>by simpa using h.cap x q hq,fun x=>?_,h.gl,h.rows.keep' (Gh.le.refl G) (by simp) (fun g _ hg=>⟨?_,hother g ?_,fun _=>rfl⟩) (fun x T xs rs hx=>?_)⟩
 rotate_left 2
 ·rw[j_ _ _ (by rintro rfl;rw[hb]at hg;cases hg)];exact hg
 ·rintro rfl;rw[hb]at hg;cases hg
 ·have hxb:x≠b:=by rintro rfl;rw[q_]at hx;cases hx
  rw[j_ _ _ hxb]at hx
  exact⟨hx,hother x hxb⟩
 ·have hne:x≠b:=by rintro rfl;rw[hn]at hk;cases hk
  exact(World.cell?_of_block (w:=w) (hother x hne)).trans (h.K x i v hk)
 ·by_cases hx:x=b
  ·subst hx
   rw[q_]
   exact⟨hB,c',clock,by simp[hlt],⟨by simpa using hm.1,hst⟩,fun i k y hi=>by simpa using hm.2 i k y hi⟩
  ·rw[j_ s _ hx]
   exact(h.ok x).keep (hother x hx) (Gh.le.refl G) (fun _=>rfl)
theorem sq {T:TypeId}{m key v:Value}{x k y:VV}{s':St}(hS:Sim w0 G w s)(hm:R G m x)(hkey:R G key k)(hv:R G v y)
  (h:gi (qi P T) (qi P (jr (qi P T))) x k y s=some s'):∃w',(Instr.mapUpdate T m key v).run P w=.ok () w'/\Sim w0 G w' s':=by
 unfold gi at h
 split at h
 ·rename_i kt et b hk
  split at h
  ·rename_i es hb hkk
   have ho:=hS.ok b
   rw[hb]at ho
   obtain⟨_,c,clock,hh,hsz,hrel⟩:=ho
   have hd:=pX hk
   have hkt:jr (qi P T)=kt:=by simp[jr,hk]
   rw[hkt]at hkk
   obtain⟨kd,hkd,hkk'⟩:=s9 (P:=P) hkk
   cases hm
   have hRM:RM G c.toList es:=⟨by simpa using hsz.1,fun i k x hi=>by simpa using hrel i k x hi⟩
   have hget:(getObj b).run P w=.ok (.map c clock) w:=by simp[getObj,Sem.run,hh]
   have hset:∀o,(setObj b o).run P w=.ok () { w with heap:=w.heap.setIfInBounds b o }:=fun o=>by simp[setObj,Sem.run,hh]
   cases hp:im k y es with
   |none=>simp[hp]at h
   |some zs=>
    simp only[hp,Option.map_some,Option.some.injEq]at h
    subst h
    rcases sB hkk' hkey hv es c.toList 0 zs hRM hp with ⟨i,u,hf,e,he,hke,hall⟩|⟨hf,hno,hall⟩
    ·rw[Nat.zero_add]at hf
     have he':c[i]?=some e:=by simpa using he
     have hce:(c.modify i fun e=>{ e with key:=key,val:=v })=(c.toList.set i ⟨key,v,e.born⟩).toArray:=by
      apply Array.ext_getElem?
      intro j
      have hta:((c.toList.set i ⟨key,v,e.born⟩).toArray)[j]?=(c.toList.set i ⟨key,v,e.born⟩)[j]?:=by simp
      rw[Array.getElem?_modify,hta,List.getElem?_set]
      by_cases hj:i=j
      ·subst hj
       have:i<c.size:=(Array.getElem?_eq_some_iff.1 he').1
       simp only[this,Array.length_toList,if_true]
       rw[he']
       rfl
      ·simp[hj]
     refine⟨_,?_,hS.set_map hb (c.modify i fun e=>{ e with key:=key,val:=v }) clock (by rw[hce];exact hall e.born) (MapKept.stamped_modify hsz.2 i _ (fun _ _=>rfl) (fun e2 _ he2=>by rw[he']at he2;injection he2 with he2;subst he2;exact EF hkk' hkey hke))⟩
     unfold Instr.mapUpdate
     simp only[Sem.run_bind,run_underlying hd,Result.andThen_ok,hget,Sem.run_pure,eC hkd hkk',Instr.findKey,run_underlying hkd,hf,he',Option.map_some,Option.getD_some,A3 (P:=P) hkk' hkey hke,hset]
    ·refine⟨_,?_,hS.set_map hb (c.push ⟨key,v,clock⟩) (clock+1) (by simpa using hall clock) (MapKept.stamped_push hsz.2 hno)⟩
     unfold Instr.mapUpdate
     simp only[Sem.run_bind,run_underlying hd,Result.andThen_ok,hget,Sem.run_pure,eC hkd hkk',Instr.findKey,run_underlying hkd,hf,hset]
  ·cases h
 ·cases h
end
section
variable {P : Program} {w0 w : World} {G : Gh} {s : St}
theorem l9 {T e:TypeId}{len:Nat}{parts:List (Nat×VV)}{vps:Array (Nat×Value)}{xs:Ta}(hS:Sim w0 G w s)
  (hk:(qi P T).k=.slice e) (hz:(qi P e).zok=true) (hlen:parts.length=len) (h0:0<len) (hbig:len * (qi P e).sz<=16777216)
  (hl:vps.size=parts.length) (hp:∀(i:Nat) (p:Nat×VV) (q:Nat×Value),parts[i]?=some p->vps[i]?=some q->p.1=q.1/\R G q.2 p.2)
  (h:gj (qi P e).sz 0 parts=some xs) :
  ∃v w' G',(Instr.buildSlice T len vps).run P w=.ok v w'/\G.le G'/\s w.heap.size=.free/\Sim w0 G' w' (s.set w.heap.size (.row e (qi P e).sz xs.flatten))/\R G' v (.mrw w.heap.size len):=by
 obtain⟨dT,iT,hdT,hiT,hkT,_⟩:=aN (P:=P) T (.inr (.inl (by rw[hk];simp)))
 have hdT':dT=.slice e:=by
  rw[hk]at hkT
  cases dT<;>simp[cg]at hkT
  rw[hkT]
 subst hdT'
 obtain⟨z,i,d,hi,hd,hke,hs,hzz,hpos,hzs,hag,hrl⟩:=RLs.zero (P:=P) (G:=G) hz
 obtain⟨hxl,hx2,hx3,_⟩:=kO parts 0 xs h
 have hzne:len * i.size≠0:=by
  have:=Nat.mul_pos h0 hpos
  omega
 obtain⟨vs,hf,hvs,_,hall⟩:=ic (G:=G) parts vps.toList 0 xs ((Array.range (len * i.size)).map fun q=>z.cells[q % z.cells.size]!) h
  (by simpa using hl) (fun i p q hpi hqi=>hp i p q hpi (by simpa using hqi)) (by simp[hlen,hs])
 have hvsz:vs.size=len * i.size:=by rw[hvs];simp
 obtain⟨G',hG,hq,hS'⟩:=hS.alloc_row e vs xs.flatten len i.size hvsz (by rw[ip hx2,hxl,hlen,hs];exact Nat.le_refl _) (by
   have:len<=len * i.size:=Nat.le_mul_of_pos_right _ hpos
   have hb2:=hbig
   rw[hs]at hb2
   simp only[maxLen];omega) (fun j y hy=>by
  obtain⟨a,b,x,h1,h2,h3⟩:=mA hx2 hy
  obtain⟨v,hv,hr⟩:=hall a b x y h1 h2
  rw[Nat.zero_add]at hv
  refine⟨hx3 x (y_ h1) y (y_ h2),v,?_,hr⟩
  rw[h3];exact hv)
 rw[hs]
 refine⟨.slice (some ⟨w.heap.size,0,none⟩) len len,_,G',?_,hG,hS.fresh,hS',R.mrw w.heap.size len len i.size (by simpa using hq) (Nat.le_refl _)⟩
 unfold Instr.buildSlice
 simp only[Sem.run_bind,run_underlying hdT,Result.andThen_ok,aO hi,Sem.run_ite]
 rw[if_neg (by rw[hs]at hbig;omega)]
 simp only[hzne,if_false,Sem.run_bind,zeroValue,typeInfo,run_program,hi,Result.andThen_ok,hzz,Sem.run_pure]
 rw[hs]at hf
 rw[hf]
 simp only[newRow,Sem.run_bind,run_newObj,Result.andThen_ok,Sem.run_pure]
 rfl
end
section
variable {P : Program} {N : Nat} {w0 w w' : World} {G G' : Gh} {s s' : St} {a : Act} {env : Env} {D : List Deferred} {k : Env -> St -> Prop} {E : VV -> Env -> St -> Prop} {o : Oper}
theorem aF {S:Sem Value}{v:Value}{x:VV}(hf:FR N G a.tmps env)(hD:a.defers=D)(hex:execOp a.eval o=(do pure (Next.value (<- S))))(hrun:S.run P w=.ok v w')
  (hG:G.le G') (hR:R G' v x) (hS:Sim w0 G' w' s') (hk:k (put N env o.dst x) s'):o.wp P a w (Nx N w0 G D k) (Px N w0 G D E):=
 cE hf hD (by rw[hex];exact LN hrun) hG hR hS hk
theorem aV {α:Type}{k:α->Prop}{x:Option α}(h:dS k x):∃y,x=some y/\k y:=by
 cases x with
 |none=>exact h.elim
 |some y=>exact⟨y,rfl,h⟩
theorem ES (op:BinOp)(T:TypeId)(x y:Operand)(k k':IntKind)(a b:Int):(eqGuard op T x y (.int k a) (.int k' b)).run P w=.ok () w:=by cases op<;>rfl
theorem rx (op:BinOp)(T:TypeId)(x y:Operand)(a b:ByteArray):(eqGuard op T x y (.string a) (.string b)).run P w=.ok () w:=by cases op<;>rfl
theorem tx (op:BinOp)(T:TypeId)(x y:Operand)(a b:Bool):(eqGuard op T x y (.bool a) (.bool b)).run P w=.ok () w:=by cases op<;>rfl
theorem Sim.new {w0 w:World}{G:Gh}{s:St}(h:Sim w0 G w s):New s w.heap.size:=⟨h.fresh,fun _ hx=>h.lt hx⟩
theorem pA {op:BinOp}{T:TypeId}{kd kd':IntKind}{x y:Int}{z:VV}(hk:kd=kd'\/yJ op=true)(h:bF op kd x y=some z):∃v,(binOp op T (.int kd x) (.int kd' y)).run P w=.ok v w/\R G v z:=by
 have hb:∀b:Bool,R G (.bool b) (.bool b):=fun b=>.bool b
 cases op<;>simp only[bF,Option.some.injEq,reduceCtorEq]at h
 case shl=>
  split at h<;>cases h
  rename_i hy
  exact⟨.int kd (kd.wrap (x * 2 ^ (min y.toNat kd.bits))),by simp[binOp,Op.shift,Int.not_lt.2 hy],.int _ _⟩
 case shr=>
  split at h<;>cases h
  rename_i hy
  exact⟨.int kd (x.fdiv (2 ^ (min y.toNat kd.bits))),by simp[binOp,Op.shift,Int.not_lt.2 hy],.int _ _⟩
 all_goals(simp only[yJ,Bool.false_eq_true,or_false]at hk;subst hk)
 case quo=>
  split at h<;>cases h
  rename_i hy
  exact⟨.int kd (kd.wrap (x.tdiv y)),by simp[binOp,Op.intDiv,hy],.int _ _⟩
 case rem=>
  split at h<;>cases h
  rename_i hy
  exact⟨.int kd (x.tmod y),by simp[binOp,Op.intDiv,hy],.int _ _⟩
 case and=>subst h;exact⟨.int kd (jv kd x y),by simp[binOp,Op.intBits,jv],.int _ _⟩
 case or=>subst h;exact⟨.int kd (bOr kd x y),by simp[binOp,Op.intBits,bOr],.int _ _⟩
 case xor=>subst h;exact⟨.int kd (tO kd x y),by simp[binOp,Op.intBits,tO],.int _ _⟩
 case andNot=>subst h;exact⟨.int kd (iO kd x y),by simp[binOp,Op.intBits,iO],.int _ _⟩
 case add=>subst h;exact⟨.int kd (kd.wrap (x+y)),by simp[binOp,Op.intArith],.int _ _⟩
 case sub=>subst h;exact⟨.int kd (kd.wrap (x - y)),by simp[binOp,Op.intArith],.int _ _⟩
 case mul=>subst h;exact⟨.int kd (kd.wrap (x * y)),by simp[binOp,Op.intArith],.int _ _⟩
 case eql=>subst h;exact⟨.bool (x == y),by simp[binOp,Op.intCmp],by rw[show (x == y)=decide (x=y) by rw[Bool.eq_iff_iff];simp];exact hb _⟩
 case neq=>subst h;exact⟨.bool (x != y),by simp[binOp,Op.intCmp],by rw[show (x != y)=!decide (x=y) by rw[Bool.eq_iff_iff];simp];exact hb _⟩
 case lss=>subst h;exact⟨.bool (decide (x<y)),by simp[binOp,Op.intCmp],hb _⟩
 case leq=>subst h;exact⟨.bool (decide (x<=y)),by simp[binOp,Op.intCmp],hb _⟩
 case gtr=>subst h;exact⟨.bool (decide (y<x)),by simp[binOp,Op.intCmp],hb _⟩
 case geq=>subst h;exact⟨.bool (decide (y<=x)),by simp[binOp,Op.intCmp],hb _⟩
theorem lN {T:TypeId}(hd:P.underlying T=some .bool)(d:Nat)(a b:Bool):(Op.equalIn (d+1) T (.bool a) (.bool b)).run P w=.ok (a == b) w:=by
 simp[Op.equalIn,run_underlying hd]
theorem ut {T:TypeId}(hp:pok P T=true)(a:Addr)(w:World):(Op.equal T (.pointer (some a)) (.pointer (some a))).run P w=.ok true w:=by
 unfold pok at hp
 split at hp<;>first|(cases hp;done)|skip
 rename_i te hd
 split at hp<;>first|(cases hp;done)|skip
 rename_i j hj
 have h:∀d:Nat,(Op.equalIn (d+1) T (.pointer (some a)) (.pointer (some a))).run P w=.ok true w:=fun d=>by
  simp[Op.equalIn,run_underlying hd,sizeOf,typeInfo,hj,run_sameAddr_same]
 exact h 9999
theorem jA:∀{xs:Ta} {l:TT},eA xs=some l->xs=cC l
 |[],l,h=>by simp only[eA]at h;injection h with h;subst h;rfl
 |x::r,l,h=>by
  unfold eA at h
  split at h
  ·rename_i he;cases he
  ·rename_i n r' he
   injection he with e1 e2
   subst e1;subst e2
   split at h
   ·rename_i hn
    cases hu:eA r with
    |none=>rw[hu]at h;cases h
    |some l'=>
     rw[hu]at h
     injection h with h
     subst h
     have:=jA hu
     have e:((UInt8.ofNat n.toNat).toNat:Int)=n:=by simp[UInt8.toNat_ofNat'];omega
     simp only[cC,List.map_cons,e]
     rw[this];rfl
   ·cases h
  ·cases h
theorem kW {T e:TypeId}(h:(qi P T).k=.slice e):P.underlying T=some (.slice e):=by
 unfold qi at h
 split at h
 ·rename_i d i hd hi
  have:cg d=.slice e:=by split at h<;>exact h
  cases d<;>simp[cg]at this
  subst this;exact hd
 ·cases h
theorem qO {T:TypeId}(h:(qi P T).k=.str):P.underlying T=some .string:=by
 unfold qi at h
 split at h
 ·rename_i d i hd hi
  have:cg d=.str:=by split at h<;>exact h
  cases d<;>simp[cg]at this
  exact hd
 ·cases h
theorem ye {src dst:TypeId}{u:Value}{x z:VV}(hS:Sim w0 G w s)(hx:R G u x)(h:er P src dst x s=some z):∃v,(convert src dst u).run P w=.ok v w/\R G v z:=by
 cases hx<;>first|(cases h;done)|skip
 case int k n=>
  simp only[er]at h
  split at h<;>first|(cases h;done)|skip
  rename_i k1 k' h1 h2
  injection h with h
  subst h
  have e1:=jT h1
  have e2:=jT h2
  exact⟨.int k' (k'.wrap n),by simp[convert,run_underlying e1,run_underlying e2,Conv.intToInt],.int _ _⟩
 case emp a cap o ho=>
  simp only[er]at h
  split at h<;>first|(cases h;done)|skip
  rename_i e he hd
  split at h<;>first|(cases h;done)|skip
  rename_i hu
  have hu8:P.underlying e=some (.int .u8):=jT (by
   cases hk:(qi P e).k with
   |int k=>rw[hk]at hu;cases k<;>first|rfl|cases hu
   |_=>rw[hk]at hu;cases hu)
  injection h with h
  subst h
  cases a with
  |none=>exact⟨.string ⟨#[]⟩,by rw[run_convert_bytes_string w src dst e none 0 cap (kW he) hu8 (qO hd)];rfl,.str #[]⟩
  |some a=>exact⟨.string ⟨#[]⟩,run_convert_bytes_back w src dst e a cap [] (kW he) hu8 (qO hd) (fun j hj=>by simp at hj),.str #[]⟩
 case lst b off len cap sz xs o f hl hc hz h1 hK hR ho=>
  simp only[er]at h
  split at h<;>first|(cases h;done)|skip
  rename_i e he hd
  split at h<;>first|(cases h;done)|skip
  rename_i hu
  have hu8:P.underlying e=some (.int .u8):=jT (by
   cases hk:(qi P e).k with
   |int k=>rw[hk]at hu;cases k<;>first|rfl|cases hu
   |_=>rw[hk]at hu;cases hu)
  cases hub:eA xs with
  |none=>rw[hub]at h;cases h
  |some l=>
   rw[hub]at h
   injection h with h
   subst h
   have hxs:=jA hub
   subst hxs
   have hlen:l.length=len:=by rw[<- hl];simp[cC]
   subst hlen
   refine⟨.string ⟨l.toArray⟩,run_convert_bytes_back w src dst e ⟨b,off,none⟩ cap l (kW he) hu8 (qO hd) (fun j hj=>?_),by
    have:=R.str (G:=G) l.toArray
    simpa using this⟩
   have hx1:(cC l)[j]?=some [.int .u8 (l[j].toNat:Int)]:=by simp[cC,m_ hj]
   have hsz:sz=1:=by
    have:=hz _ (y_ hx1)
    simpa using this.symm
   subst hsz
   have h2:=hS.K _ _ _ (hK j 0 hj (by omega))
   have h3:=hR j 0 _ _ hx1 rfl
   generalize f j 0=v at h2 h3
   cases h3
   have h4:w.cell? ⟨b,off+j,none⟩=some (.int .u8 (l[j].toNat:Int)):=by simpa using h2
   by_cases hj0:j=0
   ·subst hj0;simpa [Addr.add]using h4
   ·simpa [Addr.add,hj0]using h4
 case ptr b off=>
  simp only[er]at h
  split at h<;>first|(cases h;done)|skip
  rename_i T xs hb
  split at h<;>first|(cases h;done)|skip
  rename_i hc
  injection h with h
  subst h
  have ho:=hS.ok b
  rw[hb]at ho
  obtain⟨_,_,c,hh,hsz,_⟩:=ho
  have hsh:w.shape? b=some (T,xs.length):=by simp[World.shape?,hh,hsz]
  refine⟨.pointer (some ⟨b,off,none⟩),?_,.ptr _ _⟩
  unfold LZ at hc
  split at hc<;>first|(cases hc;done)|skip
  ·rename_i t hs hd
   split at hc<;>first|(cases hc;done)|skip
   rename_i j hj
   simp only[Bool.and_eq_true,bne_iff_ne,ne_eq,decide_eq_true_eq]at hc
   exact Lib.run_to_unsafe w ⟨b,off,none⟩ hs hd hj hc.1 hsh hc.2
  ·rename_i u hs hd
   simp only[Bool.and_eq_true,Option.isSome_iff_exists]at hc
   obtain⟨⟨j,hj⟩,hl⟩:=hc
   exact Lib.run_from_unsafe w ⟨b,off,none⟩ hs hd hj hsh hl
theorem xN {T:TypeId}{A B:Value}{b:Bool}(hE:(Op.equal T A B).run P w=.ok b w)(h1:binOp .eql T A B=(do pure (.bool (<- Op.equal T A B))))(h2:binOp .neq T A B=(do pure (.bool (!(<- Op.equal T A B))))) :
  (binOp .eql T A B).run P w=.ok (.bool b) w/\(binOp .neq T A B).run P w=.ok (.bool !b) w:=by
 rw[h1,h2]
 constructor<;>simp only[Sem.run_bind,hE,Result.andThen_ok,Sem.run_pure]
theorem wJ {G:Gh}{T:TypeId}{u u':Value}{x y:VV}{b:Bool}{op:BinOp}{ox oy:Operand}(hx:R G u x)(hy:R G u' y)(h:eG (qi P T).k x y=some b)(hc:oy.isConst=true) :
  (eqGuard op T ox oy u u').run P w=.ok () w/\(binOp .eql T u u').run P w=.ok (.bool b) w/\(binOp .neq T u u').run P w=.ok (.bool !b) w:=by
 have ki:∀k,(qi P T).k=k->k≠.other->∃d,P.underlying T=some d/\cg d=k:=fun k hk hne=>by
  obtain⟨d,i,hd,hi,hkT,_⟩:=aN (P:=P) T (.inr (.inl (by rw[hk];exact hne)))
  exact⟨d,hd,by rw[<- hk,hkT]⟩
 have main:∀(u u':Value),(∀d,(Op.equalIn (d+1) T u u').run P w=.ok b w)->(Op.equal T u u').run P w=.ok b w:=fun u u' h=>h 9999
 cases oy with
 |const c=>
  generalize hk:(qi P T).k=k at h
  unfold eG at h
  split at h<;>first|(cases h;done)|skip
  all_goals
   injection h with h
   subst h
   cases hx
   cases hy
   obtain⟨d,hd,hq⟩:=ki _ hk (by simp)
   refine⟨by cases op<;>first|rfl|simp[eqGuard],?_⟩
   refine xN (main _ _ fun d'=>?_) rfl rfl
   cases d<;>simp[cg]at hq<;>simp[Op.equalIn,run_underlying hd]
 |_=>cases hc
theorem iE {T:TypeId}{xs:Th}{off:Nat}{v:Value}(hk:E6 (qi P T).k=true)(hx:xs[off]?=some v):(part T xs off).run P w=.ok v w:=by
 obtain⟨d,i,hd,hi,hkT,_⟩:=aN (P:=P) T (.inr (.inl (by intro e;rw[e]at hk;cases hk)))
 rw[hkT]at hk
 have hag:(cg d).agg=false:=by cases hq:cg d<;>rw[hq]at hk<;>first|rfl|cases hk
 unfold part
 simp[Sem.run_bind,iF hd,Result.andThen_ok,hag,hx]
theorem wM {G:Gh}{T:TypeId}{x y:VV}{v u:Value}{b:Bool}(e:Nat)(hx:R G v x)(hy:R G u y)(h:eq1 (qi P T).k x y=some b):(Op.equalIn (e+1) T v u).run P w=.ok b w:=by
 have ki:∀k,(qi P T).k=k->k≠.other->∃d,P.underlying T=some d/\cg d=k:=fun k hk hne=>by
  obtain⟨d,i,hd,hi,hkT,_⟩:=aN (P:=P) T (.inr (.inl (by rw[hk];exact hne)))
  exact⟨d,hd,by rw[<- hk,hkT]⟩
 generalize hk:(qi P T).k=k at h
 unfold eq1 at h
 split at h
 ·rename_i k0 p a q b'
  split at h
  ·rename_i hpq
   injection h with h
   subst h;subst hpq
   cases hx;cases hy
   obtain⟨d,hd,hq⟩:=ki _ hk (by simp)
   cases d<;>simp[cg]at hq
   rw[run_equalIn_int w e T _ _ _ _ hd]
   congr 1
  ·cases h
 ·injection h with h
  subst h
  obtain⟨d,hd,hq⟩:=ki _ hk (by simp)
  cases d<;>simp[cg]at hq
  cases hx with
  |str a=>
   cases hy with
   |str b=>
    rw[run_equalIn_string w e T _ _ hd,ByteArray.toList_eq,ByteArray.toList_eq]
    congr 1
    rw[Bool.eq_iff_iff];simp
 ·injection h with h
  subst h
  cases hx;cases hy
  obtain⟨d,hd,hq⟩:=ki _ hk (by simp)
  cases d<;>simp[cg]at hq
  rw[run_equalIn_bool' w e T _ _ hd]
 ·cases h
theorem wL {G:Gh}{vs us:Th}(e:Nat):∀(fs:List Field) (i:Nat) (xs ys:Tb) (b:Bool),xu P i fs=true ->
  (∀(j:Nat) (y:VV),xs[j]?=some y->∃v,vs[i+j]?=some v/\R G v y)->(∀(j:Nat) (y:VV),ys[j]?=some y->∃v,us[i+j]?=some v/\R G v y) ->
  eqF (fs.map fun f=>(qi P f.type).k) xs ys=some b->(Op.eqFields (e+1) vs us fs).run P w=.ok b w
 |[],i,xs,ys,b,_,hx,hy,h=>by
  cases xs<;>cases ys<;>simp[eqF]at h
  subst h
  simp[Op.eqFields]
 |f::fs,i,xs,ys,b,hf,hx,hy,h=>by
  cases xs with
  |nil=>simp[eqF]at h
  |cons x xs=>
   cases ys with
   |nil=>simp[eqF]at h
   |cons y ys=>
    simp only[xu,Bool.and_eq_true,bne_iff_ne,ne_eq,beq_iff_eq]at hf
    obtain⟨⟨⟨h1,h2⟩,h3⟩,h4⟩:=hf
    simp only[List.map_cons,eqF]at h
    cases hr:eq1 (qi P f.type).k x y with
    |none=>rw[hr]at h;simp at h
    |some r=>
     rw[hr]at h
     simp only[Option.bind_some]at h
     cases hz:eqF (fs.map fun f=>(qi P f.type).k) xs ys with
     |none=>rw[hz]at h;simp at h
     |some z=>
      rw[hz]at h
      simp only[Option.map_some]at h
      injection h with h
      obtain⟨v,hv,rv⟩:=hx 0 x rfl
      obtain⟨u,hu,ru⟩:=hy 0 y rfl
      rw[Nat.add_zero]at hv hu
      have ih:=wL e fs (i+1) xs ys z h4 (fun j q hq=>by have:=hx (j+1) q (by simpa using hq);rwa [show i+1+j=i+(j+1) by omega]) (fun j q hq=>by have:=hy (j+1) q (by simpa using hq);rwa [show i+1+j=i+(j+1) by omega]) hz
      simp only[Op.eqFields]
      rw[if_pos h1,h2]
      simp only[Sem.run_bind,iE (w:=w) h3 hv,iE (w:=w) h3 hu,Result.andThen_ok,wM (P:=P) (w:=w) e rv ru hr]
      cases r with
      |false=>simp at h;subst h;simp
      |true=>simp at h;subst h;simpa using ih
theorem wK {G:Gh}{vs us:Th}{T:TypeId}(e:Nat)(hc:E6 (qi P T).k=true):∀(n i:Nat) (xs ys:Tb) (b:Bool),
  (∀(j:Nat) (y:VV),xs[j]?=some y->∃v,vs[i+j]?=some v/\R G v y)->(∀(j:Nat) (y:VV),ys[j]?=some y->∃v,us[i+j]?=some v/\R G v y) ->
  eqF (List.replicate n (qi P T).k) xs ys=some b->(Op.eqItems (e+1) T 1 vs us (List.range' i n)).run P w=.ok b w
 |0,i,xs,ys,b,hx,hy,h=>by
  cases xs<;>cases ys<;>simp[eqF]at h
  subst h
  simp[Op.eqItems]
 |n+1,i,xs,ys,b,hx,hy,h=>by
  rw[List.replicate_succ]at h
  cases xs with
  |nil=>simp[eqF]at h
  |cons x xs=>
   cases ys with
   |nil=>simp[eqF]at h
   |cons y ys=>
    simp only[eqF]at h
    cases hr:eq1 (qi P T).k x y with
    |none=>rw[hr]at h;simp at h
    |some r=>
     rw[hr]at h
     simp only[Option.bind_some]at h
     cases hz:eqF (List.replicate n (qi P T).k) xs ys with
     |none=>rw[hz]at h;simp at h
     |some z=>
      rw[hz]at h
      simp only[Option.map_some]at h
      injection h with h
      obtain⟨v,hv,rv⟩:=hx 0 x rfl
      obtain⟨u,hu,ru⟩:=hy 0 y rfl
      rw[Nat.add_zero]at hv hu
      have ih:=wK e hc n (i+1) xs ys z (fun j q hq=>by have:=hx (j+1) q (by simpa using hq);rwa [show i+1+j=i+(j+1) by omega]) (fun j q hq=>by have:=hy (j+1) q (by simpa using hq);rwa [show i+1+j=i+(j+1) by omega]) hz
      rw[List.range'_succ]
      simp only[Op.eqItems,Nat.mul_one]
      simp only[Sem.run_bind,iE (w:=w) hc hv,iE (w:=w) hc hu,Result.andThen_ok,wM (P:=P) (w:=w) e rv ru hr]
      cases r with
      |false=>simp at h;subst h;simp
      |true=>simp at h;subst h;simpa using ih
theorem wN {G:Gh}{T:TypeId}{vs us:Th}{xs ys:Tb}{b:Bool}{op:BinOp}{ox oy:Operand}(hx:R G (.agg vs) (.agg xs))(hy:R G (.agg us) (.agg ys))(h:jz P T xs ys=some b) :
  (eqGuard op T ox oy (.agg vs) (.agg us)).run P w=.ok () w/\(binOp .eql T (.agg vs) (.agg us)).run P w=.ok (.bool b) w/\(binOp .neq T (.agg vs) (.agg us)).run P w=.ok (.bool !b) w:=by
 unfold jz at h
 cases hk:ek P T with
 |none=>rw[hk]at h;simp at h
 |some ks=>
  rw[hk]at h
  simp only[Option.bind_some]at h
  unfold ek at hk
  split at hk
  ·rename_i fs hT
   split at hk
   ·rename_i hc
    injection hk with hk
    subst hk
    simp only[Bool.and_eq_true,Bool.not_eq_true']at hc
    obtain⟨⟨c1,c2⟩,c3⟩:=hc
    have hfo:P.fieldsOf T=fs:=by unfold Program.fieldsOf;rw[hT]
    have hT':P.underlying T=some (.struct (P.fieldsOf T)):=by rw[hfo];exact hT
    have ha:∀(vs:Th) (xs:Tb),R G (.agg vs) (.agg xs)->∀(j:Nat) (y:VV),xs[j]?=some y->∃v,vs[0+j]?=some v/\R G v y:=by
     intro vs xs hx j y hj
     cases hx with
     |agg _ _ hs h1 hR=>
      have hlt:j<vs.size:=by rw[hs];exact(x_.1 hj).1
      rw[Nat.zero_add]
      exact⟨vs[j],Array.getElem?_eq_getElem hlt,hR j _ _ (Array.getElem?_eq_getElem hlt) hj⟩
    have hE:=wL (P:=P) (w:=w) (G:=G) (vs:=vs) (us:=us) 9998 fs.toList 0 xs ys b c3 (ha _ _ hx) (ha _ _ hy) h
    have hE2:(Op.equalIn 10000 T (.agg vs) (.agg us)).run P w=.ok b w:=by
     rw[run_equalIn_agg w 9999 T vs us hT' c1,hfo];exact hE
    refine⟨run_eqGuard_agg w op T ox oy vs us c2,?_,?_⟩
    ·rw[run_eql_struct,hE2];rfl
    ·rw[run_neq_struct,hE2];rfl
   ·cases hk
  ·rename_i n e hT
   split at hk
   ·rename_i hc
    injection hk with hk
    subst hk
    simp only[Bool.and_eq_true,Bool.not_eq_true',beq_iff_eq]at hc
    obtain⟨⟨c1,c2⟩,c3⟩:=hc
    obtain⟨d',i',hd',hi',_,_,_⟩:=aN (P:=P) e (.inr (.inl (by intro x;rw[x]at c2;cases c2)))
    have ha:∀(vs:Th) (xs:Tb),R G (.agg vs) (.agg xs)->∀(j:Nat) (y:VV),xs[j]?=some y->∃v,vs[0+j]?=some v/\R G v y:=by
     intro vs xs hx j y hj
     cases hx with
     |agg _ _ hs h1 hR=>
      have hlt:j<vs.size:=by rw[hs];exact(x_.1 hj).1
      rw[Nat.zero_add]
      exact⟨vs[j],Array.getElem?_eq_getElem hlt,hR j _ _ (Array.getElem?_eq_getElem hlt) hj⟩
    have hE:=wK (P:=P) (w:=w) (G:=G) (vs:=vs) (us:=us) (T:=e) 9998 c2 n 0 xs ys b (ha _ _ hx) (ha _ _ hy) h
    have hE2:(Op.equalIn 10000 T (.agg vs) (.agg us)).run P w=.ok b w:=by
     rw[run_equalIn_array w 9999 vs us hT hi',c3,List.range_eq_range'];exact hE
    refine⟨run_eqGuard_agg w op T ox oy vs us c1,?_,?_⟩
    ·rw[run_eql_struct,hE2];rfl
    ·rw[run_neq_struct,hE2];rfl
   ·cases hk
  ·cases hk
theorem wG (a b:Array UInt8):((⟨a⟩:ByteArray).toList == (⟨b⟩:ByteArray).toList)=decide (a.toList=b.toList):=by
 rw[ByteArray.toList_eq,ByteArray.toList_eq]
 rw[Bool.eq_iff_iff]
 simp
theorem RL.map {N:Nat}{a:Act}(hf:FR N G a.tmps env)(l:List Operand):RL G (l.map a.eval).toArray (l.map (rd env)):=
 ⟨by simp,fun j v y hv hy=>by
  rw[List.getElem?_toArray,n_]at hv
  rw[n_]at hy
  cases hj:l[j]? with
  |none=>simp[hj]at hv
  |some x=>
   simp[hj]at hv hy
   subst hv;subst hy
   exact hf.eval x⟩
theorem RL.append {vs us:Th}{xs ys:Tb}(h:RL G vs xs)(h':RL G us ys):RL G (vs++us) (xs++ys):=
 ⟨by simp[h.1,h'.1],fun j v y hv hy=>by
  rcases Nat.lt_or_ge j vs.size with hj|hj
  ·rw[Array.getElem?_append_left hj]at hv
   rw[g_ (by rw[<- h.1];exact hj)]at hy
   exact h.2 j v y hv hy
  ·rw[Array.getElem?_append_right hj]at hv
   rw[h_ (by rw[<- h.1];exact hj)]at hy
   rw[h.1]at hv
   exact h'.2 _ v y hv hy⟩
theorem un {c:Call}{f:Operand}(hf:FR N G a.tmps env)(hD:a.defers=D)(hS:Sim w0 G w s)(ho:o.op=.call c)(hc:c.callee=.value f)
  (h:wC P N E o.dst k env s (rd env f) (c.args.toList.map (rd env))):o.wp P a w (Nx N w0 G D k) (Px N w0 G D E):=by
 obtain⟨g,caps,Q,hfn,hcx,hr,hp⟩:=h
 have hv:=hf.eval f
 rw[hfn]at hv
 generalize hev:a.eval f=fv at hv
 cases hv with
 |fn g vs xs hs hR=>
  have hargs:RL G ((c.args.map a.eval)++vs) (c.args.toList.map (rd env)++caps):=by
   have h1:=RL.map hf c.args.toList
   have e:(c.args.toList.map a.eval).toArray=c.args.map a.eval:=by
    apply Array.toList_inj.1;simp
   rw[e]at h1
   exact h1.append ⟨hs,hR⟩
  have hex:(execOp a.eval o).run P w=(callFunc g ((c.args.map a.eval)++vs)).run P w:=by
   unfold execOp
   simp only[ho,resolve,hc,hev,Deferred.ofValue,Sem.run_bind,Sem.run_pure,Result.andThen_ok,invoke]
   rw[Array.empty_append]
  rcases hcx with ⟨hcall,hcs⟩|hx
  ·have hrun:=hex.trans (hcall _ _)
   unfold Oper.wp
   rw[hrun,Oper.upon_enter]
   refine(hcs w0 G w _ hS hargs).mono ?_
   rintro e w' ⟨G',s',x,hG,hS',hE,hQ⟩
   cases e with
   |returned v=>
    cases x with
    |ret x=>exact⟨G',_,s',hG,(hf.mono hG).put o.dst hE,(dc _ _ _).trans hD,hS',hr x s' hQ⟩
    |panic x=>exact hE.elim
   |panicked ch=>
    cases x with
    |ret x=>exact hE.elim
    |panic x=>
     obtain⟨v,rfl,hv⟩:=hE
     exact⟨G',env,s',v,x,rfl,hv,hG,hf.mono hG,hD,hS',hp x s' hQ⟩
   |outgrown=>cases x<;>exact hE.elim
  ·obtain⟨v,w',G',s',y,hrun,hG,hS',hR,hQ⟩:=hx w0 G w _ hS hargs
   exact cE hf hD (hex.trans hrun) hG hR hS' (hr y s' hQ)
theorem RO.map {N:Nat}{a:Act}(hf:FR N G a.tmps env)(x:Option Operand):RO G (x.map a.eval) (x.map (rd env)):=by
 cases x with
 |none=>trivial
 |some x=>exact hf.eval x
theorem qh {N:Nat}{a:Act}(hf:FR N G a.tmps env)(parts:Array (Nat×Operand)) :
  (parts.map fun(i,x)=>(i,a.eval x)).size=(parts.toList.map fun p=>(p.1,rd env p.2)).length /\
  ∀(i:Nat) (p:Nat×VV) (q:Nat×Value),(parts.toList.map fun p=>(p.1,rd env p.2))[i]?=some p->(parts.map fun(i,x)=>(i,a.eval x))[i]?=some q->p.1=q.1/\R G q.2 p.2:=by
 refine⟨by simp,fun i p q hp hq=>?_⟩
 rw[n_]at hp
 rw[Array.getElem?_map]at hq
 rw[Array.getElem?_toList]at hp
 cases hj:parts[i]? with
 |none=>simp[hj]at hp
 |some r=>
  simp[hj]at hp hq
  subst hp;subst hq
  exact⟨rfl,hf.eval r.2⟩
theorem ng (hf:FR N G a.tmps env)(hD:a.defers=D)(hS:Sim w0 G w s)(h:aP P N E o k env s):o.wp P a w (Nx N w0 G D k) (Px N w0 G D E):=by
 have hle:=Gh.le.refl G
 unfold aP at h
 split at h
 ·rename_i x ho
  exact cE hf hD (by unfold execOp;rw[ho];rfl) hle (hf.eval x) hS h
 ·rename_i x ho
  exact cE hf hD (by unfold execOp;rw[ho];rfl) hle (hf.eval x) hS h
 ·
  rename_i c x y ho
  split at h
  ·rename_i t hc
   have hv:=hf.eval c
   rw[hc]at hv
   generalize hev:a.eval c=cv at hv
   cases hv
   refine cE hf hD (v:=if t then a.eval x else a.eval y) (by unfold execOp;rw[ho];simp[hev,asBool]) hle ?_ hS h
   cases t
   ·exact hf.eval y
   ·exact hf.eval x
  ·exact h.elim
 ·
  rename_i T ho
  obtain⟨hz,h⟩:=h
  obtain⟨z,i,d,hi,hd,hk,hs,hzz,hpos,hzs,hag,hrl⟩:=RLs.zero (P:=P) (G:=G) hz
  refine aF hf hD (S:=Instr.alloc T true (.tuple #[])) (by unfold execOp;rw[ho]) (v:=.pointer (some ⟨w.heap.size,0,none⟩)) (w':=w.alloc (.cells z.cells T)) ?_ hle (.ptr _ _)
   (hS.alloc_obj T z.cells (qi P T).z hrl.1 (fun j x hx=>?_)) (h _ hS.new)
  ·unfold Instr.alloc
   simp only[Sem.run_bind,zeroValue,typeInfo,run_program,Result.andThen_ok,hi,Sem.run_pure,hzz,newVar,newRow,run_newObj]
   rfl
  ·have hlt:j<z.cells.size:=by rw[hrl.1];exact(x_.1 hx).1
   exact⟨hrl.2.1 x (d_.2 ⟨j,hx⟩),z.cells[j],Array.getElem?_eq_getElem hlt,hrl.2.2 j _ x (Array.getElem?_eq_getElem hlt) hx⟩
 ·
  rename_i T x ho
  obtain⟨h1,h⟩:=h
  have hrl:=RLs.of_cells (hf.eval x) h1
  refine aF hf hD (S:=Instr.box T (a.eval x)) (by unfold execOp;rw[ho]) (v:=.pointer (some ⟨w.heap.size,0,none⟩)) (w':=w.alloc (.cells (a.eval x).cells T)) ?_ hle (.ptr _ _)
   (hS.alloc_obj T _ _ hrl.1 (fun j y hy=>?_)) (h _ hS.new)
  ·simp only[Instr.box,newVar,newRow,Sem.run_bind,run_newObj,Result.andThen_ok,Sem.run_pure]
   rfl
  ·have hlt:j<(a.eval x).cells.size:=by rw[hrl.1];exact(x_.1 hy).1
   exact⟨hrl.2.1 y (d_.2 ⟨j,hy⟩),(a.eval x).cells[j],Array.getElem?_eq_getElem hlt,hrl.2.2 j _ y (Array.getElem?_eq_getElem hlt) hy⟩
 ·
  rename_i T parts ho
  obtain⟨hfk,hz,h⟩:=h
  obtain⟨cs,hcs,h⟩:=aV h
  obtain⟨hl,hp⟩:=qh hf parts
  obtain⟨vs,hrun,hrl⟩:=yg (P:=P) (w:=w) hz hl hp hcs hfk
  exact aF hf hD (by unfold execOp;rw[ho]) hrun hle (.agg _ _ hrl.1 hrl.2.1 hrl.2.2) hS h
 ·
  rename_i T len parts ho
  obtain⟨hlen,hz,hbig,hk,h⟩:=h
  obtain⟨xs,hxs,h⟩:=aV h
  obtain⟨hl,hp⟩:=qh hf parts
  cases hkk:(qi P T).k<;>rw[hkk]at hk<;>first|exact hk.elim|skip
  rename_i e
  have he:aE (qi P T)=e:=by simp[aE,hkk]
  rw[he]at hz hbig hxs
  by_cases hmu:v7 T o.pos=true
  ·rw[if_pos hmu,he]at h
   obtain⟨h0,h⟩:=h
   obtain⟨v,w',G',hrun,hG,hfr,hS',hR⟩:=l9 (P:=P) (T:=T) (len:=len) hS hkk hz (by simpa using hlen) h0 hbig hl hp hxs
   exact aF hf hD (by unfold execOp;rw[ho]) hrun hG hR hS' (h _ hfr)
  ·rw[if_neg hmu]at h
   obtain⟨v,w',G',hrun,hG,hS',hR⟩:=nD (P:=P) (T:=T) (len:=len) hS hkk hz (by simpa using hlen) hbig hl hp hxs
   exact aF hf hD (by unfold execOp;rw[ho]) hrun hG hR hS' h
 ·
  rename_i T x ho
  obtain⟨y,hy,h⟩:=aV h
  obtain⟨v,hrun,hR⟩:=pU (P:=P) hS (hf.eval x) hy
  exact aF hf hD (by unfold execOp;rw[ho]) hrun hle hR hS h
 ·
  rename_i T x y ho
  obtain⟨s',hs,h⟩:=aV h
  obtain⟨w',hrun,hS'⟩:=uq (P:=P) hS (hf.eval x) (hf.eval y) hs
  exact rU hf hD (by unfold execOp;rw[ho];simp[hrun]) hle hS' h
 ·
  rename_i x ho
  obtain⟨h1,h⟩:=h
  refine cE hf hD (v:=a.eval x) ?_ hle (hf.eval x) hS h
  have hv:=hf.eval x
  cases hx:rd env x<;>rw[hx]at h1 hv<;>first|exact h1.elim|skip
  all_goals
   generalize hu:a.eval x=u at hv
   cases hv
   simp[execOp,ho,hu]
 ·
  rename_i op T x y T' ho
  have hx:=hf.eval x
  have hy:=hf.eval y
  have hex:execOp a.eval o=(do pure (Next.value (<- (do eqGuard op T x y (a.eval x) (a.eval y);binOp op T (a.eval x) (a.eval y))))):=by unfold execOp;rw[ho]
  split at h
  ·rename_i kd p kd' q e1 e2
   obtain⟨hkk,h⟩:=h
   obtain⟨z,hz,h⟩:=aV h
   rw[e1]at hx
   rw[e2]at hy
   generalize a.eval x=u at hx hex
   generalize a.eval y=u' at hy hex
   cases hx
   cases hy
   obtain⟨v,hrun,hR⟩:=pA (P:=P) (w:=w) (T:=T) (G:=G) hkk hz
   exact aF hf hD hex (by simp only[Sem.run_bind,ES,Result.andThen_ok];exact hrun) hle hR hS h
  ·rename_i p q e1 e2
   rw[e1]at hx
   rw[e2]at hy
   generalize a.eval x=u at hx hex
   generalize a.eval y=u' at hy hex
   cases hx with
   |str p=>
    cases hy with
    |str q=>
     split at h
     ·obtain⟨hb,h⟩:=h
      refine aF hf hD hex (v:=.string ⟨p++q⟩) ?_ hle (by simpa using R.str (G:=G) (p++q)) hS h
      simp only[Sem.run_bind,rx,Result.andThen_ok]
      simp only[binOp,Op.stringOp]
      have e:((((⟨p⟩:ByteArray).size+(⟨q⟩:ByteArray).size:Nat)):Int)=((p.toList.length+q.toList.length:Nat):Int):=by simp[ByteArray.size]
      rw[e]
      rw[if_neg (by rw[show IntKind.i64.max=9223372036854775807 by decide];omega)]
      simp only[Sem.run_pure,Result.ok.injEq,and_true,Value.string.injEq]
      exact ByteArray.ext (by simp)
     ·refine aF hf hD hex (v:=.bool (decide (p.toList=q.toList))) ?_ hle (.bool _) hS h
      simp only[Sem.run_bind,rx,Result.andThen_ok,binOp,Op.stringOp,Sem.run_pure,wG]
     ·refine aF hf hD hex (v:=.bool !(decide (p.toList=q.toList))) ?_ hle (.bool _) hS h
      simp only[Sem.run_bind,rx,Result.andThen_ok,binOp,Op.stringOp,Sem.run_pure,wG]
     ·exact h.elim
  ·rename_i p q e1 e2
   obtain⟨hk,h⟩:=h
   rw[e1]at hx
   rw[e2]at hy
   generalize a.eval x=u at hx hex
   generalize a.eval y=u' at hy hex
   cases hx
   cases hy
   have hkb:(qi P T).k=.bool:=by cases hk':(qi P T).k<;>rw[hk']at hk<;>first|rfl|exact hk.elim
   have hd:=yz hkb
   split at h
   ·refine aF hf hD hex (v:=.bool (p == q)) ?_ hle (.bool _) hS h
    simp only[Sem.run_bind,tx,Result.andThen_ok,binOp]
    simp[Op.equal,Op.maxDepth,lN hd 9999]
   ·refine aF hf hD hex (v:=.bool !(p == q)) ?_ hle (.bool _) hS h
    simp only[Sem.run_bind,tx,Result.andThen_ok,binOp]
    simp[Op.equal,Op.maxDepth,lN hd 9999]
   ·exact h.elim
  ·rename_i b i b' j e1 e2
   obtain⟨hp,rfl,rfl,h⟩:=h
   rw[e1]at hx
   rw[e2]at hy
   generalize a.eval x=u at hx hex
   generalize a.eval y=u' at hy hex
   cases hx
   cases hy
   have hE:(Op.equal T (.pointer (some ⟨b,i,none⟩)) (.pointer (some ⟨b,i,none⟩))).run P w=.ok true w:=ut hp _ w
   have hg:(eqGuard op T x y (.pointer (some ⟨b,i,none⟩)) (.pointer (some ⟨b,i,none⟩))).run P w=.ok () w:=by cases op<;>first|rfl|simp[eqGuard]
   obtain⟨hE1,hE2⟩:=xN hE rfl rfl
   split at h
   ·refine aF hf hD hex (v:=.bool true) ?_ hle (.bool _) hS h
    simp only[Sem.run_bind,hg,Result.andThen_ok];exact hE1
   ·refine aF hf hD hex (v:=.bool false) ?_ hle (.bool _) hS h
    simp only[Sem.run_bind,hg,Result.andThen_ok];exact hE2
   ·exact h.elim
  ·rename_i xs ys e1 e2
   rw[e1]at hx
   rw[e2]at hy
   generalize a.eval x=u at hx hex
   generalize a.eval y=u' at hy hex
   cases u<;>first|(cases hx;done)|skip
   cases u'<;>first|(cases hy;done)|skip
   split at h
   ·obtain⟨b,hb,h⟩:=aV h
    obtain⟨h1,h2,_⟩:=wN (P:=P) (w:=w) (op:=.eql) (ox:=x) (oy:=y) hx hy hb
    exact aF hf hD hex (v:=.bool b) (by simp only[Sem.run_bind,h1,Result.andThen_ok];exact h2) hle (.bool _) hS h
   ·obtain⟨b,hb,h⟩:=aV h
    obtain⟨h1,_,h2⟩:=wN (P:=P) (w:=w) (op:=.neq) (ox:=x) (oy:=y) hx hy hb
    exact aF hf hD hex (v:=.bool !b) (by simp only[Sem.run_bind,h1,Result.andThen_ok];exact h2) hle (.bool _) hS h
   ·exact h.elim
  ·obtain⟨hcy,h⟩:=h
   split at h
   ·obtain⟨b,hb,h⟩:=aV h
    obtain⟨h1,h2,_⟩:=wJ (P:=P) (w:=w) (op:=.eql) (ox:=x) (oy:=y) hx hy hb hcy
    exact aF hf hD hex (v:=.bool b) (by simp only[Sem.run_bind,h1,Result.andThen_ok];exact h2) hle (.bool _) hS h
   ·obtain⟨b,hb,h⟩:=aV h
    obtain⟨h1,_,h2⟩:=wJ (P:=P) (w:=w) (op:=.neq) (ox:=x) (oy:=y) hx hy hb hcy
    exact aF hf hD hex (v:=.bool !b) (by simp only[Sem.run_bind,h1,Result.andThen_ok];exact h2) hle (.bool _) hS h
   ·exact h.elim
 ·
  rename_i src dst x ho
  have hx:=hf.eval x
  have hex:execOp a.eval o=(do pure (Next.value (<- convert src dst (a.eval x)))):=by unfold execOp;rw[ho]
  obtain⟨z,hz,h⟩:=aV h
  obtain⟨v,hrun,hR⟩:=ye (P:=P) hS hx hz
  exact aF hf hD hex hrun hle hR hS h
 ·
  rename_i op T x ho
  have hx:=hf.eval x
  have hex:execOp a.eval o=(do pure (Next.value (<- Op.unary op (a.eval x)))):=by unfold execOp;rw[ho]
  split at h
  ·rename_i b e
   rw[e]at hx
   generalize a.eval x=u at hx hex
   cases hx
   exact aF hf hD hex (v:=.bool !b) rfl hle (.bool _) hS h
  ·rename_i kd n e
   rw[e]at hx
   generalize a.eval x=u at hx hex
   cases hx
   exact aF hf hD hex (v:=.int kd (kd.wrap (0 - n))) rfl hle (.int _ _) hS h
  ·exact h.elim
 ·
  rename_i T x j ho
  have hx:=hf.eval x
  have hex:execOp a.eval o=(do pure (Next.value (<- Instr.fieldAt T (a.eval x) j))):=by unfold execOp;rw[ho]
  split at h
  ·rename_i cs off sz ag e1 e2
   obtain⟨_,h⟩:=h
   rw[e1]at hx
   obtain⟨b,of,hu,_⟩:=Lies.of_eptr hS hx
   rw[hu]at hx hex
   exact aF hf hD hex (lM (P:=P) e2 b of) hle (hx.eptr_drop off) hS h
  ·rename_i b of off sz ag e1 e2
   rw[e1]at hx
   generalize a.eval x=u at hx hex
   cases hx
   exact aF hf hD hex (lM (P:=P) e2 b of) hle (.ptr _ _) hS h
  ·exact h.elim
 ·
  rename_i T x j ho
  have hx:=hf.eval x
  split at h
  ·rename_i cs off sz ag e1 e2
   obtain⟨z,hz,h⟩:=aV h
   rw[e1]at hx
   obtain⟨u,hrun,hR⟩:=yf (P:=P) (w:=w) e2 hx hz
   exact aF hf hD (by unfold execOp;rw[ho]) hrun hle hR hS h
  ·exact h.elim
 ·
  rename_i T x i ho
  obtain⟨z,hz,h⟩:=aV h
  obtain⟨u,hrun,hR⟩:=zN (P:=P) (w:=w) (hf.eval x) (hf.eval i) hz
  exact aF hf hD (by unfold execOp;rw[ho]) hrun hle hR hS h
 ·
  rename_i T x i ho
  obtain⟨z,hz,h⟩:=aV h
  obtain⟨u,hrun,hR⟩:=CQ (P:=P) (w:=w) (hf.eval x) (hf.eval i) hz
  exact aF hf hD (by unfold execOp;rw[ho]) hrun hle hR hS h
 ·
  rename_i T x lo hi mx ho
  obtain⟨rfl,h⟩:=h
  obtain⟨z,hz,h⟩:=aV h
  obtain⟨u,hrun,hR⟩:=ur (P:=P) (w:=w) (hf.eval x) (RO.map hf lo) (RO.map hf hi) hz
  exact aF hf hD (by unfold execOp;rw[ho];rfl) hrun hle hR hS h
 ·
  rename_i T x ho
  obtain⟨hk,h⟩:=h
  refine aF hf hD (by unfold execOp;rw[ho]) (v:=.iface T (a.eval x)) ?_ hle (.iface _ _ _ (hf.eval x)) hS h
  have hne:(qi P T).k≠.other:=by intro e;rw[e]at hk;exact hk
  obtain⟨d,i,hd,hi,hkk,_⟩:=aN (P:=P) T (.inr (.inl hne))
  rw[hkk]at hk
  unfold Instr.makeInterface
  simp only[Sem.run_bind,run_underlying hd,Result.andThen_ok]
  cases d<;>first|rfl|exact hk.elim
 ·
  rename_i f fs caps ho
  obtain⟨rfl,h⟩:=h
  have hm:=RL.map hf caps.toList
  have e:(caps.toList.map a.eval).toArray=caps.map a.eval:=by
   apply Array.toList_inj.1;simp
  rw[e]at hm
  exact aF hf hD (by unfold execOp;rw[ho]) (v:=.func (.func f) #[] (caps.map a.eval)) (by simp[Instr.makeFunc]) hle (.fn f _ _ hm.1 hm.2) hS h
 ·
  rename_i T l c ho
  split at h
  ·rename_i k1 n k2 m z e1 e2 e3
   obtain⟨rfl,h0,hb,hn,hk,hz,h⟩:=h
   have hl:=hf.eval l
   have hc:=hf.eval c
   rw[e1]at hl
   rw[e2]at hc
   have hex:execOp a.eval o=(do pure (Next.value (<- Instr.makeSlice T (a.eval l) (a.eval c)))):=by unfold execOp;rw[ho]
   generalize a.eval l=u at hl hex
   generalize a.eval c=u' at hc hex
   cases hl
   cases hc
   obtain⟨e,hke⟩:∃e,(qi P T).k=.slice e:=by
    cases hq:(qi P T).k<;>rw[hq]at hk<;>first|exact⟨_,rfl⟩|exact hk.elim
   have hel:aE (qi P T)=e:=by unfold aE;rw[hke]
   rw[hel]at hb hz h e3
   obtain⟨d,i,hd,hi,hkT,_⟩:=aN (P:=P) T (.inr (.inl (by rw[hke];intro x;cases x)))
   have hds:d=.slice e:=by
    rw[hke]at hkT
    cases d<;>simp[cg]at hkT
    rw[hkT]
   subst hds
   obtain⟨zv,j,de,hj,hde,hkk,hs,hzz,hpos,hzs,hag,hrl⟩:=RLs.zero (P:=P) (G:=G) hz
   obtain⟨de',j',hde',hj',_,_,hbt⟩:=aN (P:=P) e (.inr (.inr hz))
   rw[hj]at hj'
   injection hj' with hj'
   subst hj'
   rw[e3]at hrl
   have hsz1:zv.cells.size=1:=hrl.1
   have hj1:j.size=1:=by omega
   refine aF hf hD hex (v:=.slice (some ⟨w.heap.size,0,none⟩) n.toNat n.toNat) (w':=w.alloc (.cells (madeCells zv.cells (n.toNat * j.size)) e)) ?_ hle (.msl _ _)
    (hS.alloc_obj e _ (List.replicate n.toNat z) (by rw[size_madeCells,hj1,List.length_replicate,Nat.mul_one]) (fun x y hy=>?_)) (by rw[<- hel];exact hel ▸ h _ hS.new)
   ·exact run_make (P:=P) w T e j zv hd hj hzz k1 k2 n n h0 (Int.le_refl _) (by rw[hbt]at hb;rw[Int.mul_comm];omega) (by omega)
   ·obtain⟨hx,rfl⟩:x<n.toNat/\y=z:=by
     rw[List.getElem?_replicate]at hy
     split at hy
     ·injection hy with hy;exact⟨‹_›,hy.symm⟩
     ·cases hy
    refine⟨hrl.2.1 y (by simp),zv.cells[0]'(by omega),?_,hrl.2.2 0 _ y (Array.getElem?_eq_getElem (by omega)) rfl⟩
    have hlt:x<(madeCells zv.cells (n.toNat * j.size)).size:=by rw[size_madeCells,hj1];omega
    rw[Array.getElem?_eq_getElem hlt]
    simp only[madeCells,Array.getElem_map,Array.getElem_range,hsz1,Nat.mod_one]
    congr 1
    simp[hsz1]
  ·rename_i k1 n k2 m z1 z2 zs e1 e2 e3
   obtain⟨rfl,h0,hb,hn,hk,hz,h⟩:=h
   have hl:=hf.eval l
   have hc:=hf.eval c
   rw[e1]at hl
   rw[e2]at hc
   have hex:execOp a.eval o=(do pure (Next.value (<- Instr.makeSlice T (a.eval l) (a.eval c)))):=by unfold execOp;rw[ho]
   generalize a.eval l=u at hl hex
   generalize a.eval c=u' at hc hex
   cases hl
   cases hc
   obtain⟨e,hke⟩:∃e,(qi P T).k=.slice e:=by
    cases hq:(qi P T).k<;>rw[hq]at hk<;>first|exact⟨_,rfl⟩|exact hk.elim
   have hel:aE (qi P T)=e:=by unfold aE;rw[hke]
   rw[hel]at hb hz h e3 hn
   obtain⟨d,i,hd,hi,hkT,_⟩:=aN (P:=P) T (.inr (.inl (by rw[hke];intro x;cases x)))
   have hds:d=.slice e:=by
    rw[hke]at hkT
    cases d<;>simp[cg]at hkT
    rw[hkT]
   subst hds
   obtain⟨zv,j,de,hj,hde,hkk,hs,hzz,hpos,hzs,hag,hrl⟩:=RLs.zero (P:=P) (G:=G) hz
   obtain⟨de',j',hde',hj',_,_,hbt⟩:=aN (P:=P) e (.inr (.inr hz))
   rw[hj]at hj'
   injection hj' with hj'
   subst hj'
   rw[e3]at hrl
   generalize hZ:z1::z2::zs=Z at hrl h
   have hzl:zv.cells.size=Z.length:=hrl.1
   have hys:∀y,y∈List.replicate n.toNat Z->y.length=j.size:=fun y hy=>by
    obtain⟨_,rfl⟩:=List.mem_replicate.1 hy
    omega
   have hn2:n.toNat * j.size<=140737488355328:=by
    rw[hs]at hn
    have:((n.toNat * j.size:Nat):Int)<=140737488355328:=by
     rw[Int.natCast_mul,Int.toNat_of_nonneg (by omega)];exact hn
    omega
   have hle1:n.toNat<=n.toNat * j.size:=Nat.le_mul_of_pos_right _ hpos
   obtain⟨G',hG,hq,hS'⟩:=hS.alloc_row e (madeCells zv.cells (n.toNat * j.size)) (List.replicate n.toNat Z).flatten n.toNat j.size (size_madeCells _ _)
    (by rw[ip hys,List.length_replicate];exact Nat.le_refl _) (by simp only[maxLen];omega) (fun x y hy=>by
     obtain⟨a',b',z',h1,h2,h3⟩:=mA hys hy
     obtain⟨ha',rfl⟩:a'<n.toNat/\z'=Z:=by
      rw[List.getElem?_replicate]at h1
      split at h1
      ·injection h1 with h1;exact⟨‹_›,h1.symm⟩
      ·cases h1
     have hb':b'<z'.length:=(x_.1 h2).1
     have hlt0:x<n.toNat * j.size:=by
      have:=Nat.mul_le_mul_right j.size ha'
      rw[Nat.succ_mul]at this
      omega
     refine⟨hrl.2.1 y (y_ h2),zv.cells[b']'(by omega),?_,hrl.2.2 b' _ y (Array.getElem?_eq_getElem (by omega)) h2⟩
     rw[Array.getElem?_eq_getElem (by rw[size_madeCells];exact hlt0)]
     simp only[madeCells,Array.getElem_map,Array.getElem_range]
     have hmod:x % zv.cells.size=b':=by
      rw[h3,hzs,Nat.mul_comm,Nat.mul_add_mod,Nat.mod_eq_of_lt (by omega)]
     rw[hmod]
     congr 1
     rw[getElem!_pos zv.cells b' (by omega)])
   refine aF hf hD hex (v:=.slice (some ⟨w.heap.size,0,none⟩) n.toNat n.toNat) (w':=w.alloc (.cells (madeCells zv.cells (n.toNat * j.size)) e)) ?_ hG
    (R.mrw w.heap.size n.toNat n.toNat j.size (by simpa using hq) (Nat.le_refl _)) hS' (by rw[<- hs];exact hel ▸ h _ hS.new)
   exact run_make (P:=P) w T e j zv hd hj hzz k1 k2 n n (by omega) (Int.le_refl _) (by rw[hbt]at hb;rw[Int.mul_comm];omega) (by omega)
  ·exact h.elim
 ·
  rename_i T ho
  refine aF hf hD (by unfold execOp;rw[ho]) (v:=.map (some w.heap.size)) (w':=w.alloc (.map #[] 0)) ?_ hle (.mp _) hS.alloc_map (h _ hS.new)
  simp[Instr.makeMap]
 ·
  rename_i T m key ok ho
  obtain⟨z,hz,h⟩:=aV h
  obtain⟨u,hrun,hR⟩:=sA (P:=P) hS (hf.eval m) (hf.eval key) hz
  exact aF hf hD (by unfold execOp;rw[ho]) hrun hle hR hS h
 ·
  rename_i T m key x ho
  obtain⟨s',hs,h⟩:=aV h
  obtain⟨w',hrun,hS'⟩:=sq (P:=P) hS (hf.eval m) (hf.eval key) (hf.eval x) hs
  exact rU hf hD (by unfold execOp;rw[ho];simp[hrun]) hle hS' h
 ·
  rename_i t i ho
  have ht:=hf.eval t
  split at h
  ·rename_i xs e
   obtain⟨z,hz,h⟩:=aV h
   rw[e]at ht
   have hex:execOp a.eval o=(do pure (Next.value (<- Instr.extract (a.eval t) i))):=by unfold execOp;rw[ho]
   generalize a.eval t=u at ht hex
   cases ht with
   |tup vs xs hs hR=>
    have hlt:i<vs.size:=by rw[hs];exact(x_.1 hz).1
    exact aF hf hD hex (v:=vs[i]) (by simp[Instr.extract,hlt]) hle (hR i _ z (Array.getElem?_eq_getElem hlt) hz) hS h
  ·exact h.elim
 ·
  rename_i x T0 T ok ho
  obtain⟨rfl,hk,h⟩:=h
  have hx:=hf.eval x
  split at h
  ·rename_i T' y e
   obtain⟨rfl,h⟩:=h
   rw[e]at hx
   have hex:execOp a.eval o=(do pure (Next.value (<- Instr.typeAssert (a.eval x) T0 T' true))):=by unfold execOp;rw[ho]
   generalize a.eval x=u at hx hex
   cases hx with
   |iface t v y hR=>
    have hne:(qi P T').k≠.other:=by intro e;rw[e]at hk;exact hk
    obtain⟨d,i,hd,hi,hkk,_⟩:=aN (P:=P) T' (.inr (.inl hne))
    rw[hkk]at hk
    refine aF hf hD hex (v:=.tuple #[v,.bool true]) ?_ hle (.tup _ _ rfl fun j v' y' h1 h2=>?_) hS h
    ·unfold Instr.typeAssert
     simp only[Sem.run_bind,run_underlying hd,Result.andThen_ok]
     cases d<;>first|exact hk.elim|simp
    ·match j with
     |0=>simp at h1 h2;subst h1;subst h2;exact hR
     |1=>simp at h1 h2;subst h1;subst h2;exact .bool _
     |j+2=>simp at h2
  ·exact h.elim
 ·
  rename_i x ho
  have hx:=hf.eval x
  split at h
  ·rename_i T y e
   rw[e]at hx
   have hex:execOp a.eval o=(do pure (Next.value (<- Instr.panic (a.eval x)))):=by unfold execOp;rw[ho]
   generalize a.eval x=u at hx hex
   cases hx with
   |iface t v x hv=>
    unfold Oper.wp
    rw[hex]
    simp only[Instr.panic,Sem.run_bind,run_goPanic,Result.andThen_halt]
    exact⟨G,env,s,.iface T v,.iface T y,rfl,.iface _ _ _ hv,hle,hf,hD,hS,h⟩
  ·exact h.elim
 ·
  rename_i c ho
  split at h
  ·rename_i f hc
   exact un hf hD hS ho hc h
  ·
   rename_i hc
   split at h
   ·rename_i x T e1 e2
    obtain⟨z,hz,h⟩:=aV h
    obtain⟨u,hrun,hR⟩:=zL (P:=P) (T:=T) (ty:=o.type) hS (hf.eval x) hz
    have e1':c.args=#[x]:=Array.toList_inj.1 (by simpa using e1)
    have e2':c.argTypes=#[T]:=Array.toList_inj.1 (by simpa using e2)
    refine cE hf hD (v:=u) ?_ hle hR hS h
    unfold execOp
    simp[ho,resolve,hc,invoke,builtin,e1',e2',hrun]
   ·exact h.elim
  ·
   rename_i hc
   split at h
   ·rename_i x y e1
    obtain⟨z,hz,h⟩:=aV h
    have e1':c.args=#[x,y]:=Array.toList_inj.1 (by simpa using e1)
    have hx:=hf.eval x
    have hy:=hf.eval y
    unfold be at hz
    split at hz
    ·rename_i kd p kd' q e3 e4
     split at hz
     ·rename_i e5
      subst e5
      simp only[Bool.false_eq_true,if_false,Option.some.injEq]at hz
      subst hz
      rw[e3]at hx
      rw[e4]at hy
      generalize hu:a.eval x=u at hx
      generalize hu':a.eval y=u' at hy
      cases hx
      cases hy
      refine cE hf hD (v:=.int kd (if q<p then q else p)) ?_ hle (.int _ _) hS h
      unfold execOp
      simp[ho,resolve,hc,invoke,builtin,e1',hu,hu',Builtin.min_,Builtin.min2]
     ·cases hz
    ·cases hz
   ·exact h.elim
  ·
   rename_i hc
   split at h
   ·rename_i x y e1
    obtain⟨z,hz,h⟩:=aV h
    have e1':c.args=#[x,y]:=Array.toList_inj.1 (by simpa using e1)
    have hx:=hf.eval x
    have hy:=hf.eval y
    unfold be at hz
    split at hz
    ·rename_i kd p kd' q e3 e4
     split at hz
     ·rename_i e5
      subst e5
      simp only[if_true,Option.some.injEq]at hz
      subst hz
      rw[e3]at hx
      rw[e4]at hy
      generalize hu:a.eval x=u at hx
      generalize hu':a.eval y=u' at hy
      cases hx
      cases hy
      refine cE hf hD (v:=.int kd (if p<q then q else p)) ?_ hle (.int _ _) hS h
      unfold execOp
      simp[ho,resolve,hc,invoke,builtin,e1',hu,hu',Builtin.max_,Builtin.max2]
     ·cases hz
    ·cases hz
   ·exact h.elim
  ·
   rename_i hc
   split at h
   ·rename_i x y T T' e1 e2
    obtain⟨hk,h⟩:=h
    have e1':c.args=#[x,y]:=Array.toList_inj.1 (by simpa using e1)
    have e2':c.argTypes=#[T,T']:=Array.toList_inj.1 (by simpa using e2)
    have hx:=hf.eval x
    have hy:=hf.eval y
    cases hkk:(qi P T).k<;>rw[hkk]at hk<;>first|exact hk.elim|skip
    rename_i e
    have he:aE (qi P T)=e:=by simp[aE,hkk]
    rw[he]at h
    split at h
    ·rename_i xs ox ys oy e3 e4
     rw[e3]at hx
     rw[e4]at hy
     obtain⟨rfl,h⟩:=h
     obtain⟨v,w',G',s',z,hrun,hG,hS',hR,h⟩:=lL (P:=P) (T':=T) (ty:=o.type) hS hx (fun hp hl=>.of_lst (aZ hkk) hS hy hp hl) hkk h
     refine cE hf hD (v:=v) ?_ hG hR hS' h
     unfold execOp
     simp[ho,resolve,hc,invoke,builtin,e1',e2',hrun]
    ·rename_i b n ys oy e3 e4
     rw[e3]at hx
     rw[e4]at hy
     obtain⟨rfl,h⟩:=h
     obtain⟨v,w',G',s',z,hrun,hG,hS',hR,h⟩:=qQ (P:=P) (T':=T) (ty:=o.type) hS hx (fun hp hl=>.of_lst (aZ hkk) hS hy hp hl) hkk h
     refine cE hf hD (v:=v) ?_ hG hR hS' h
     unfold execOp
     simp[ho,resolve,hc,invoke,builtin,e1',e2',hrun]
    ·rename_i ys oy e3 e4
     rw[e3]at hx
     rw[e4]at hy
     obtain⟨rfl,h⟩:=h
     obtain⟨v,w',G',s',z,hrun,hG,hS',hR,h⟩:=qR (P:=P) (T':=T) (ty:=o.type) hS hx (fun hp hl=>.of_lst (aZ hkk) hS hy hp hl) hkk h
     refine cE hf hD (v:=v) ?_ hG hR hS' h
     unfold execOp
     simp[ho,resolve,hc,invoke,builtin,e1',e2',hrun]
    ·rename_i xs ox l e3 e4
     rw[e3]at hx
     rw[e4]at hy
     obtain⟨hstr,h⟩:=h
     have hu:P.underlying T'=some .string:=by
      cases hq:(qi P T').k<;>rw[hq]at hstr<;>first|(cases hstr;done)|exact jS hq
     obtain⟨v,w',G',s',z,hrun,hG,hS',hR,h⟩:=lL (P:=P) (T':=T') (ty:=o.type) hS hx (fun hp hl=>by
      cases l with
      |nil=>exact .of_str0 hu hy
      |cons c l=>
       have h1:(qi P e).sz=1:=(hl [.int .u8 (c.toNat:Int)] (by simp[cC])).symm
       rw[h1]
       exact .of_str hu hy) hkk h
     refine cE hf hD (v:=v) ?_ hG hR hS' h
     unfold execOp
     simp[ho,resolve,hc,invoke,builtin,e1',e2',hrun]
    ·exact h.elim
   ·exact h.elim
  ·exact h.elim
 ·exact h.elim
end
inductive Tr where
 |lf (b:Bool)
 |nd (v:Nat) (l h:Tr)
def evT:Tr->Tf
 |.lf b,_=>b
 |.nd v l h,x=>if x v=true then evT h x else evT l x
def OkT (n:Nat):Nat->Tr->Prop
 |_,.lf _=>True
 |m,.nd v l h=>m<=v/\v<n/\l≠h/\OkT n (v+1) l/\OkT n (v+1) h
def da (x:Tg)(v:Nat)(b:Bool):Tg:=fun i=>if i=v then b else x i
theorem bL {x:Tg}{v:Nat}{b:Bool}:da x v b v=b:=if_pos rfl
theorem cN {x:Tg}{v i:Nat}{b:Bool}(h:i≠v):da x v b i=x i:=if_neg h
theorem pM {x:Tg}{v:Nat}:da x v (x v)=x:=by
 funext i
 unfold da
 split
 ·rename_i h;rw[h]
 ·rfl
theorem iC {x:Tg}{v w:Nat}{b c:Bool}(h:v≠w):da (da x v b) w c=da (da x w c) v b:=by
 funext i
 unfold da
 by_cases h1:i=w
 ·subst h1;rw[if_pos rfl,if_neg (Ne.symm h),if_pos rfl]
 ·rw[if_neg h1]
  by_cases h2:i=v
  ·rw[if_pos h2,if_pos h2]
  ·rw[if_neg h2,if_neg h2,if_neg h1]
theorem OkT.mono {n:Nat}:∀{t:Tr} {m m':Nat},OkT n m t->m'<=m->OkT n m' t
 |.lf _,_,_,_,_=>trivial
 |.nd v l h,m,m',⟨h1,h2⟩,hm=>⟨Nat.le_trans hm h1,h2⟩
theorem dF {n:Nat}:∀{t:Tr} {m v:Nat} {x:Tg} {b:Bool},OkT n m t->v<m->evT t (da x v b)=evT t x
 |.lf _,_,_,_,_,_,_=>rfl
 |.nd w l h,m,v,x,b,⟨h1,h2,h3,h4,h5⟩,hv=>by
  have hw:w≠v:=by omega
  simp only[evT,cN hw]
  rw[dF h4 (show v<w+1 by omega),dF h5 (show v<w+1 by omega)]
theorem gF {n:Nat}{v:Nat}{l h:Tr}(hl:OkT n (v+1) l)(x:Tg):evT (.nd v l h) (da x v false)=evT l x:=by
 simp only[evT,bL]
 exact dF hl (by omega)
theorem gG {n:Nat}{v:Nat}{l h:Tr}(hh:OkT n (v+1) h)(x:Tg):evT (.nd v l h) (da x v true)=evT h x:=by
 simp only[evT,bL]
 exact dF hh (by omega)
theorem iu {n:Nat}:∀{a b:Tr} {m:Nat},OkT n m a->OkT n m b->(∀x,evT a x=evT b x)->a=b
 |.lf a,.lf b,_,_,_,h=>by have:=h fun _=>false;simp only[evT]at this;rw[this]
 |.lf a,.nd v l h,m,ha,⟨h1,h2,h3,h4,h5⟩,he=>by
  refine absurd (iu h4 h5 fun x=>?_) h3
  rw[<- gF (h:=h) h4 x,<- gG (l:=l) h5 x,<- he,<- he];rfl
 |.nd v l h,.lf b,m,⟨h1,h2,h3,h4,h5⟩,hb,he=>by
  refine absurd (iu h4 h5 fun x=>?_) h3
  rw[<- gF (h:=h) h4 x,<- gG (l:=l) h5 x,he,he];rfl
 |.nd v l h,.nd w l' h',m,⟨a1,a2,a3,a4,a5⟩,⟨b1,b2,b3,b4,b5⟩,he=>by
  rcases Nat.lt_trichotomy v w with hvw|hvw|hvw
  ·have hb:OkT n (v+1) (.nd w l' h'):=⟨hvw,b2,b3,b4,b5⟩
   refine absurd (iu a4 a5 fun x=>?_) a3
   rw[<- gF (h:=h) a4 x,<- gG (l:=l) a5 x,he,he,dF hb (by omega),dF hb (by omega)]
  ·subst hvw
   have e1:l=l':=iu a4 b4 fun x=>by rw[<- gF (h:=h) a4 x,<- gF (h:=h') b4 x,he]
   have e2:h=h':=iu a5 b5 fun x=>by rw[<- gG (l:=l) a5 x,<- gG (l:=l') b5 x,he]
   rw[e1,e2]
  ·have ha:OkT n (w+1) (.nd v l h):=⟨hvw,a2,a3,a4,a5⟩
   refine absurd (iu b4 b5 fun x=>?_) b3
   rw[<- gF (h:=h') b4 x,<- gG (l:=l') b5 x,<- he,<- he,dF ha (by omega),dF ha (by omega)]
termination_by a b=>SizeOf.sizeOf a+SizeOf.sizeOf b
open Classical in
noncomputable def mkT (v:Nat)(l h:Tr):Tr:=if l=h then l else .nd v l h
theorem lh {v:Nat}{l h:Tr}(x:Tg):evT (mkT v l h) x=if x v=true then evT h x else evT l x:=by
 unfold mkT
 split
 ·rename_i e;subst e;simp
 ·rfl
theorem ld {n m v:Nat}{l h:Tr}(hm:m<=v)(hv:v<n)(hl:OkT n (v+1) l)(hh:OkT n (v+1) h):OkT n m (mkT v l h):=by
 unfold mkT
 split
 ·exact hl.mono (by omega)
 ·rename_i e;exact⟨hm,hv,e,hl,hh⟩
def ep (n:Nat)(g:Tf):Prop:=∀x y,(∀i,i<n->x i=y i)->g x=g y
noncomputable def treeF (n:Nat):Nat->(Tf)->Tr
 |0,g=>.lf (g fun _=>false)
 |k+1,g=>mkT (n - (k+1)) (treeF n k fun x=>g (da x (n - (k+1)) false)) (treeF n k fun x=>g (da x (n - (k+1)) true))
theorem eM {n:Nat}:∀{k:Nat} {g:Tf},k<=n->OkT n (n - k) (treeF n k g)
 |0,_,_=>trivial
 |k+1,g,hk=>by
  have e:n - (k+1)+1=n - k:=by omega
  exact ld (Nat.le_refl _) (by omega) (by rw[e];exact eM (by omega)) (by rw[e];exact eM (by omega))
theorem fK {n:Nat}:∀{k:Nat} {g:Tf} (x:Tg),k<=n->(∀x y,(∀i,n - k<=i->i<n->x i=y i)->g x=g y)->evT (treeF n k g) x=g x
 |0,g,x,_,hg=>hg _ _ fun i h1 h2=>by omega
 |k+1,g,x,hk,hg=>by
  simp only[treeF,lh]
  have key:∀b,evT (treeF n k fun x=>g (da x (n - (k+1)) b)) x=g (da x (n - (k+1)) b):=fun b=>
   fK (g:=fun x=>g (da x (n - (k+1)) b)) x (by omega) fun x y h=>hg _ _ fun i h1 h2=>by
    by_cases e:i=n - (k+1)
    ·subst e;rw[bL,bL]
    ·rw[cN e,cN e];exact h i (by omega) h2
  by_cases hb:x (n - (k+1))=true
  ·rw[if_pos hb,key,<- hb,pM]
  ·rw[if_neg hb,key]
   have:x (n - (k+1))=false:=by simpa using hb
   rw[<- this,pM]
noncomputable def treeT (n:Nat)(g:Tf):Tr:=treeF n n g
theorem cQ {n:Nat}{g:Tf}:OkT n 0 (treeT n g):=(eM (Nat.le_refl n)).mono (by omega)
theorem bU {n:Nat}{g:Tf}(hg:ep n g)(x:Tg):evT (treeT n g) x=g x:=
 fK x (Nat.le_refl n) fun x y h=>hg x y fun i hi=>h i (by omega) hi
theorem fY {n:Nat}:∀{t:Tr} {m:Nat},OkT n m t->ep n (evT t)
 |.lf _,_,_=>fun _ _ _=>rfl
 |.nd v l h,m,⟨h1,h2,h3,h4,h5⟩=>fun x y he=>by
  simp only[evT]
  rw[he v h2,fY h4 x y he,fY h5 x y he]
theorem zC {n m:Nat}{t:Tr}(h:OkT n m t):treeT n (evT t)=t:=
 iu cQ (h.mono (Nat.zero_le _)) fun x=>bU (fY h) x
theorem bY {n m:Nat}{t:Tr}{g:Tf}(h:OkT n m t)(hg:∀x,evT t x=g x):treeT n g=t:=by
 have:g=evT t:=funext fun x=>(hg x).symm
 rw[this];exact zC h
noncomputable def iteT (n:Nat)(a b c:Tr):Tr:=treeT n fun x=>if evT a x=true then evT b x else evT c x
theorem yH {n:Nat}{a b c:Tr}(ha:OkT n 0 a)(hb:OkT n 0 b)(hc:OkT n 0 c):ep n fun x=>if evT a x=true then evT b x else evT c x:=fun x y h=>by
 simp only
 rw[fY ha x y h,fY hb x y h,fY hc x y h]
theorem EI {n:Nat}{a b c:Tr}:OkT n 0 (iteT n a b c):=cQ
theorem mJ {n:Nat}{a b c:Tr}(ha:OkT n 0 a)(hb:OkT n 0 b)(hc:OkT n 0 c)(x:Tg):evT (iteT n a b c) x=if evT a x=true then evT b x else evT c x:=
 bU (yH ha hb hc) x
def loT (v:Nat):Tr->Tr
 |.lf b=>.lf b
 |.nd w l h=>if w=v then l else .nd w l h
def hiT (v:Nat):Tr->Tr
 |.lf b=>.lf b
 |.nd w l h=>if w=v then h else .nd w l h
def py (n:Nat):Tr->Nat
 |.lf _=>n
 |.nd v _ _=>v
theorem OkT.at_top {n m v:Nat}{t:Tr}(h:OkT n m t)(hv:v<=py n t)(hvn:v<n):OkT n v t/\OkT n (v+1) (loT v t)/\OkT n (v+1) (hiT v t):=by
 cases t with
 |lf b=>exact⟨trivial,trivial,trivial⟩
 |nd w l h'=>
  obtain⟨h1,h2,h3,h4,h5⟩:=h
  simp only[py]at hv
  refine⟨⟨hv,h2,h3,h4,h5⟩,?_,?_⟩
  ·show OkT n (v+1) (if w=v then l else .nd w l h')
   split
   ·rename_i e;subst e;exact h4
   ·rename_i e;exact⟨by omega,h2,h3,h4,h5⟩
  ·show OkT n (v+1) (if w=v then h' else .nd w l h')
   split
   ·rename_i e;subst e;exact h5
   ·rename_i e;exact⟨by omega,h2,h3,h4,h5⟩
theorem lr {n m v:Nat}{t:Tr}(h:OkT n m t)(hv:v<=py n t)(x:Tg):evT t x=if x v=true then evT (hiT v t) x else evT (loT v t) x:=by
 cases t with
 |lf b=>simp[loT,hiT,evT]
 |nd w l h'=>
  show _=if x v=true then evT (if w=v then h' else .nd w l h') x else evT (if w=v then l else .nd w l h') x
  by_cases e:w=v
  ·subst e;rw[if_pos rfl,if_pos rfl];rfl
  ·rw[if_neg e,if_neg e];simp
theorem OkT.weak {n m:Nat}{t:Tr}(h:OkT n m t):OkT n 0 t:=h.mono (Nat.zero_le _)
theorem yE {n v:Nat}{a b c:Tr}(ha:OkT n 0 a)(hb:OkT n 0 b)(hc:OkT n 0 c)(hva:v<=py n a)(hvb:v<=py n b)(hvc:v<=py n c)(hv:v<n) :
  OkT n (v+1) (iteT n (loT v a) (loT v b) (loT v c))/\OkT n (v+1) (iteT n (hiT v a) (hiT v b) (hiT v c))/\iteT n a b c=mkT v (iteT n (loT v a) (loT v b) (loT v c)) (iteT n (hiT v a) (hiT v b) (hiT v c)):=by
 obtain⟨_,a1,a2⟩:=ha.at_top hva hv
 obtain⟨_,b1,b2⟩:=hb.at_top hvb hv
 obtain⟨_,c1,c2⟩:=hc.at_top hvc hv
 have up:∀{p q r:Tr},OkT n (v+1) p->OkT n (v+1) q->OkT n (v+1) r->OkT n (v+1) (iteT n p q r):=fun {p q r} hp hq hr=>by
  have hk:n - (n - (v+1))=v+1:=by omega
  have h1:OkT n (v+1) (treeF n (n - (v+1)) fun x=>if evT p x=true then evT q x else evT r x):=by
   have:=eM (n:=n) (k:=n - (v+1)) (g:=fun x=>if evT p x=true then evT q x else evT r x) (by omega)
   rwa [hk]at this
  have h2:iteT n p q r=treeF n (n - (v+1)) fun x=>if evT p x=true then evT q x else evT r x:=by
   refine bY h1 fun x=>fK x (by omega) fun x y h=>?_
   have in_:∀{t:Tr},OkT n (v+1) t->evT t x=evT t y:=fun {t} ht=>by
    have hang:∀{t:Tr} {m:Nat},OkT n m t->m=v+1\/v+1<=m->evT t x=evT t y:=fun {t}=>by
     induction t with
     |lf b=>intro m _ _;rfl
     |nd w l h' il ih=>
      intro m ⟨h1,h2,h3,h4,h5⟩ hm
      simp only[evT]
      rw[h w (by omega) h2,il h4 (by omega),ih h5 (by omega)]
    exact hang ht (.inl rfl)
   rw[in_ hp,in_ hq,in_ hr]
  rw[h2];exact h1
 have hl:=up a1 b1 c1
 have hh:=up a2 b2 c2
 refine⟨hl,hh,bY (ld (Nat.zero_le v) hv hl hh) fun x=>?_⟩
 rw[lh,mJ a1.weak b1.weak c1.weak,mJ a2.weak b2.weak c2.weak,lr ha hva x,lr hb hvb x,lr hc hvc x]
 by_cases e:x v=true
 ·simp[e]
 ·simp[e]
theorem Bb {n:Nat}{b c:Tr}(hb:OkT n 0 b)(hc:OkT n 0 c):iteT n (.lf true) b c=b:=bY hb fun x=>by simp[evT]
theorem yD {n:Nat}{b c:Tr}(hb:OkT n 0 b)(hc:OkT n 0 c):iteT n (.lf false) b c=c:=bY hc fun x=>by simp[evT]
theorem yG {n:Nat}{a b:Tr}(ha:OkT n 0 a)(hb:OkT n 0 b):iteT n a b b=b:=bY hb fun x=>by simp
theorem yF {n:Nat}{a:Tr}(ha:OkT n 0 a):iteT n a (.lf true) (.lf false)=a:=bY ha fun x=>by simp only[evT];cases evT a x<;>rfl
def aL:Tr->List Tr
 |.lf _=>[]
 |.nd v l h=>.nd v l h::(aL l++aL h)
theorem gu:∀{t s u:Tr},s∈aL t->u∈aL s->u∈aL t
 |.lf _,_,_,h,_=>by simp[aL]at h
 |.nd v l h',s,u,h,hu=>by
  simp only[aL,AT,f_]at h
  rcases h with rfl|h|h
  ·exact hu
  ·simp only[aL,AT,f_];exact .inr (.inl (gu h hu))
  ·simp only[aL,AT,f_];exact .inr (.inr (gu h hu))
theorem gv {v:Nat}{l h u:Tr}(hu:u∈aL l\/u∈aL h):u∈aL (mkT v l h):=by
 unfold mkT
 split
 ·rename_i e;subst e;rcases hu with hu|hu<;>exact hu
 ·simp only[aL,AT,f_];exact .inr hu
def SubN (t:Tr)(m:Nat):Prop:=∃S:List Tr,S.length<=m/\∀u,u∈aL t->u∈S
theorem SubN.mono {t:Tr}{m m':Nat}(h:SubN t m)(hm:m<=m'):SubN t m':=by
 obtain⟨S,h1,h2⟩:=h
 exact⟨S,by omega,h2⟩
theorem SubN.self (t:Tr):SubN t (aL t).length:=⟨_,Nat.le_refl _,fun _ h=>h⟩
abbrev Td:=List Tr
end Go.Proofs.YtohnaepcgnbaiaaGreatDoor
