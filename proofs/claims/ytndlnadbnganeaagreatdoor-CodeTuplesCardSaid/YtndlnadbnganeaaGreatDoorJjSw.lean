/- Walks of functions that the claim reaches, and plain facts of them. Conditions: those in the statements. -/
import Derived.Test.YtndlnadbnganeaaGreatDoorJjSqj
set_option linter.unusedSimpArgs false
set_option linter.unusedVariables false
set_option maxRecDepth 100000
namespace Go.Proofs.YtndlnadbnganeaaGreatDoor
open Go.RowKit
attribute [-go_sem] p_and p_or p_shl p_shr
def orF (o:List (List Nat))(T:List (List Nat))(x:Nat→Bool):Bool:=T.any fun t=>tupF o [0,1,2] t x
theorem orF_dep (o:List (List Nat))(T:List (List Nat)):DepF (varsOf o [0,1,2]) (orF o T):=fun x y e=>by
 unfold orF
 rw[show (fun t=>tupF o [0,1,2] t x)=fun t=>tupF o [0,1,2] t y from funext fun t=>tupF_dep o x y e]
theorem orF_add {o:List (List Nat)}{T:List (List Nat)}{t:List Nat}:(fun x=>orF o T x || tupF o [0,1,2] t x)=orF o (T++[t]):=by
 funext x
 simp[orF]
def rowN (t:List Nat):List Int:=t.map fun(k:Nat)=>(k:Int)
def putA (T:List (List Nat)):List (List Int):=T.foldl (fun l t=>putRow l (rowN t)) []
theorem putA_add {T:List (List Nat)}{t:List Nat}:putA (T++[t])=putRow (putA T) (rowN t):=by simp[putA]
theorem putA_mem {r:List Int}:∀{T:List (List Nat)} {l:List (List Int)},r∈T.foldl (fun l t=>putRow l (rowN t)) l↔r∈l∨∃t,t∈T∧r=rowN t
 |[],l=>by simp
 |t::T,l=>by
  rw[List.foldl_cons,putA_mem,putRow_mem]
  simp only[List.mem_cons]
  constructor
  ·rintro((h|h)|⟨u,h,e⟩)
   ·exact .inl h
   ·exact .inr ⟨t,.inl rfl,h⟩
   ·exact .inr ⟨u,.inr h,e⟩
  ·rintro(h|⟨u,rfl|h,e⟩)
   ·exact .inl (.inl h)
   ·exact .inl (.inr e)
   ·exact .inr ⟨u,h,e⟩
theorem putA_rising:∀{T:List (List Nat)} {l:List (List Int)},Rising l→Rising (T.foldl (fun l t=>putRow l (rowN t)) l)
 |[],_,h=>h
 |t::T,l,h=>putA_rising (T:=T) (putRow_rising h)
theorem putA_len:∀{T:List (List Nat)} {l:List (List Int)},(T.foldl (fun l t=>putRow l (rowN t)) l).length≤l.length+T.length
 |[],l=>by simp
 |t::T,l=>by
  have h:=putA_len (T:=T) (l:=putRow l (rowN t))
  have h2:=(putRow_len (l:=l) (r:=rowN t)).1
  simp only[List.foldl_cons,List.length_cons]
  omega
theorem tup3 {o:List (List Nat)}{v0 v1 v2:Nat}{x:Nat→Bool}:tupF o [0,1,2] [v0,v1,v2] x=true↔numA (o.getD 0 []) x=v0∧numA (o.getD 1 []) x=v1∧numA (o.getD 2 []) x=v2:=by
 simp[tupF]
theorem or_rows {n:Nat}{ds:List (List UInt8×Nat)}{o:List (List Nat)}(hD:DOk n ds o)(hd:ds.length=3){T:List (List Nat)}(hT:∀t,t∈T→∃v0 v1 v2,t=[v0,v1,v2]∧v0<2 ^ (o.getD 0 []).length∧v1<2 ^ (o.getD 1 []).length∧v2<2 ^ (o.getD 2 []).length) :
  sortR (tupR (treeT n (orF o T)) o [0,1,2])=putA T:=by
 symm
 have hks:∀k,k∈[0,1,2]→k<ds.length:=fun k hk=>by simp at hk;omega
 have hnd:[0,1,2].Nodup:=by decide
 refine sortR_uniq (putA_rising (by simp[Rising])) fun r=>?_
 rw[tup_mem hD hks hnd (orF_dep o T),putA,putA_mem]
 simp only[List.not_mem_nil,false_or,List.map_cons,List.map_nil]
 constructor
 ·rintro⟨t,ht,rfl⟩
  obtain⟨v0,v1,v2,rfl,a0,a1,a2⟩:=hT t ht
  have hN:=varsOf_nd hD hnd hks
  obtain⟨x,hx⟩:=num_ex [(o.getD 0 [],v0),(o.getD 1 [],v1),(o.getD 2 [],v2)] (by simpa [varsOf]using hN) (fun p hp=>by
   simp at hp
   rcases hp with rfl|rfl|rfl<;>assumption)
  have e0:=hx _ (List.mem_cons_self ..)
  have e1:=hx _ (List.mem_cons_of_mem _ (List.mem_cons_self ..))
  have e2:=hx _ (List.mem_cons_of_mem _ (List.mem_cons_of_mem _ (List.mem_cons_self ..)))
  dsimp only at e0 e1 e2
  refine⟨x,?_,by rw[e0,e1,e2];rfl⟩
  simp only[orF,List.any_eq_true]
  exact⟨_,ht,tup3.2 ⟨e0,e1,e2⟩⟩
 ·rintro⟨x,hx,rfl⟩
  simp only[orF,List.any_eq_true]at hx
  obtain⟨t,ht,h⟩:=hx
  obtain⟨v0,v1,v2,rfl,_⟩:=hT t ht
  obtain⟨e0,e1,e2⟩:=tup3.1 h
  exact⟨_,ht,by rw[e0,e1,e2];rfl⟩
theorem putA_ok {T:List (List Nat)}(hT:∀t,t∈T→t.length≤1000)(hl:T.length≤1000):RowsOk (putA T):=by
 refine⟨?_,fun r hr=>?_⟩
 ·have:=putA_len (T:=T) (l:=[])
  simp only[List.length_nil]at this
  unfold putA
  omega
 ·rw[putA,putA_mem]at hr
  rcases hr with hr|⟨t,ht,rfl⟩
  ·cases hr
  ·have:=hT t ht
   rw[rowN,List.length_map]
   omega
end Go.Proofs.YtndlnadbnganeaaGreatDoor
