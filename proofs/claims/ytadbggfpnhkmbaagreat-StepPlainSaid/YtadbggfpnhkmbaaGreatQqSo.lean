/- Walks of functions that the claim reaches, and plain facts of them. Conditions: those in the statements. -/
import Derived.Test.YtadbggfpnhkmbaaGreatQqShelfN
import Derived.Test.YtadbggfpnhkmbaaGreatQqSgj
set_option linter.unusedSimpArgs false
set_option linter.unusedVariables false
namespace Go.Proofs.YtadbggfpnhkmbaaGreat
open Go.RowKit Go.Lib Go.Sort
theorem cmp_swo {α:Type}(ct:α→List Int):SWO (ltOf fun x y=>cmpZ (ct x) (ct y)) where
 irrefl x:=by simp[ltOf,cmpZ_self]
 trans x y z h1 h2:=by
  simp only[ltOf,decide_eq_true_eq]at *
  exact cmpZ_trans _ _ _ h1 h2
 ntrans x y z h1 h2:=by
  simp only[ltOf,decide_eq_false_iff_not]at *
  intro h3
  rcases Int.lt_or_le 0 (cmpZ (ct x) (ct y))with h|h
  ·have:cmpZ (ct y) (ct x)<0:=by rw[cmpZ_neg];omega
   exact h2 (cmpZ_trans _ _ _ this h3)
  ·have h0:cmpZ (ct x) (ct y)=0:=by omega
   rw[cmpZ_eq h0]at h3
   exact h2 h3
theorem sort_cell (enc:Nat→Value)(w:World)(g m:Nat)(dk:Array Nat)(os:Array Obj){b:Nat}(hb:b≠g)(hlt:b<w.heap.size):(sortWorld enc w g 0 m dk os).heap[b]?=w.heap[b]?:=by
 unfold sortWorld
 rw[heap_grow_old _ _ (by simp[putRow,mapBlock,Sort.ahead];exact hlt)]
 show (w.heap.modify g _)[b]?=_
 rw[Array.getElem?_modify,if_neg (Ne.symm hb)]
theorem perm_rows {rows:List (List Int)}{d:List Nat}(hd:d.Perm (List.range rows.length)):(d.map fun i=>(rows[i]?).getD []).Perm rows:=by
 have h:=hd.map fun i=>(rows[i]?).getD []
 refine h.trans (List.Perm.of_eq ?_)
 apply List.ext_getElem
 ·simp
 ·intro i h1 h2
  simp[List.getElem?_eq_getElem h2]
theorem Sort_S (rows:List (List Int))(g:Nat)(T:TypeId)(hn:rows.length≤140737488355328)(hnd:rows.Nodup)(hlen:∀r,r∈rows→r.length≤140737488355328)(s:St)(hs:s g=.row T 1 (rows.map rowV)) :
  SRet Tryz.prog 21 [.mrw g rows.length,.fn 22 []] s (.tup []) (s.set g (.row T 1 ((sortR rows).map rowV))):=by
 intro w0 G w vs hS hA
 obtain⟨v1,v2,rfl,r1,r2⟩:=RL_two hA
 cases r1 with
 |mrw _ _ cap sz hq hc=>
 cases r2 with
 |fn f us xs hus hR=>
 obtain rfl:us=#[]:=Array.eq_empty_of_size_eq_zero (by simpa using hus)
 have hok:=hS.ok g
 rw[hs]at hok
 obtain⟨hB,hnK,c,cap',hh,hq',hcs,hl,hm,hx⟩:=hok
 rw[List.length_map]at hl
 have hblk:g<w.heap.size:=hS.lt (by rw[hs];simp)
 have hcell:∀(i:Nat) (r:List Int),rows[i]?=some r→∃v,c[i]?=some v∧R G v (rowV r):=fun i r hr=>(hx i (rowV r) (by simp[hr])).2
 let enc:Nat→Value:=fun i=>if i<rows.length then(c[i]?).getD (.slice none 0 0)else .slice none 0 0
 let ct:Nat→List Int:=fun i=>(rows[i]?).getD []
 have henc:∀i,∃v,R G v (rowV (ct i))∧enc i=v∧(i<rows.length→c[i]?=some v):=fun i=>by
  by_cases hi:i<rows.length
  ·obtain⟨v,h1,h2⟩:=hcell i _ (List.getElem?_eq_getElem hi)
   exact⟨v,by simp only[ct,List.getElem?_eq_getElem hi,Option.getD_some];exact h2,by simp only[enc,if_pos hi,h1,Option.getD_some],fun _=>h1⟩
  ·refine⟨.slice none 0 0,?_,by simp only[enc,if_neg hi],fun h=>absurd h hi⟩
   simp only[ct,List.getElem?_eq_none (Nat.le_of_not_lt hi),Option.getD_none]
   exact .emp none 0 .no (.inl rfl)
 have hone:OneCell enc:=fun i=>by
  obtain⟨v,h1,h2,_⟩:=henc i
  rw[h2,h1.one]
  rfl
 have hctl:∀i,(ct i).length≤140737488355328:=fun i=>by
  cases hi:rows[i]? with
  |none=>simp[ct,hi]
  |some r=>simp only[ct,hi,Option.getD_some];exact hlen r (List.mem_of_getElem? hi)
 have hcmp:CmpReads Tryz.prog 22 #[] enc (fun x y=>cmpZ (ct x) (ct y)) g 0 (Array.range rows.length).size w:=by
  intro m os dk hdk x y
  obtain⟨v1,k1,e1,_⟩:=henc x
  obtain⟨v2,k2,e2,_⟩:=henc y
  obtain⟨ba,b1,f1,c1,hv1,g1,q1⟩:=row_read k1
  obtain⟨bb,b2,f2,c2,hv2,g2,q2⟩:=row_read k2
  rw[e1,e2,hv1,hv2]
  have hk:∀(b i:Nat) (v:Value),G.K b i=some v→(sortWorld enc w g 0 m dk os).cell? ⟨b,i,none⟩=some v:=fun b i v h=>by
   have hne:b≠g:=by rintro rfl;rw[hnK]at h;cases h
   exact(World.cell?_of_block (w:=w) (sort_cell enc w g m dk os hne (hS.K_lt h))).trans (hS.K _ _ _ h)
  refine(cmp_raw ba bb b1 f1 c1 b2 f2 c2 (ct x) (ct y) _ (hctl x) (hctl y) g1 g2 (fun j z hz=>hk _ _ _ (q1 j z hz)) fun j z hz=>hk _ _ _ (q2 j z hz)).mono ?_
  rintro e w' ⟨rfl,rfl⟩
  exact⟨rfl,0,rfl⟩
 have hH:Holds enc w g 0 (Array.range rows.length):=fun j hj=>by
  rw[Array.size_range]at hj
  obtain⟨v,h1,h2,h3⟩:=henc j
  have hj3:=h3 hj
  constructor
  ·rw[getElem!_pos _ j (by simpa using hj),Array.getElem_range,h2]
   simp only[World.cell?,Nat.zero_add,hh]
   exact hj3
  ·simp[World.frozen?,hh]
 have hsz:(Array.range rows.length).size=rows.length:=Array.size_range
 have hmain:=Tryz.slices_SortFunc enc hone (fun x y=>cmpZ (ct x) (ct y)) (cmp_swo ct) 22 #[] g 0 cap (Array.range rows.length) w can22 hcmp.lays hH hblk (by rw[hsz];omega)
 rw[hsz]at hmain
 refine hmain.mono ?_
 rintro e w' ⟨rfl,d',n,os,hp,hsrt,rfl⟩
 obtain⟨hp1,hp2,hp3⟩:=hp
 rw[hsz]at hp1
 have hex:(d'.extract 0 rows.length)=d':=by rw[← hp1];exact Array.extract_size ..
 have hex2:((Array.range rows.length).extract 0 rows.length)=Array.range rows.length:=by have h:=Array.extract_size (xs:=Array.range rows.length);rw[hsz]at h;exact h
 rw[hex,hex2,Array.toList_range]at hp3
 have hperm:(d'.toList.map ct).Perm rows:=perm_rows hp3
 have hdl:d'.toList.length=rows.length:=by simpa using hp1
 have hR':d'.toList.map ct=sortR rows:=by
  refine sortR_uniq ?_ fun r=>hperm.mem_iff
  have hnd':(d'.toList.map ct).Nodup:=hperm.nodup_iff.2 hnd
  unfold Rising
  rw[List.pairwise_iff_getElem]
  intro i j hi hj hij
  have hi':i<d'.size:=by simpa using hi
  have hj':j<d'.size:=by simpa using hj
  have h1:=hsrt i j (Nat.zero_le _) hij (by omega)
  rw[getElem!_pos d' i hi',getElem!_pos d' j hj']at h1
  simp only[ltOf,decide_eq_false_iff_not]at h1
  have hne:=(List.pairwise_iff_getElem.1 hnd') i j hi hj hij
  simp only[List.getElem_map,Array.getElem_toList]at hne ⊢
  have h2:cmpZ (ct d'[i]) (ct d'[j])≠0:=fun e=>hne (cmpZ_eq e)
  rw[cmpZ_neg]at h1
  omega
 have hS1:Sim w0 G (Sort.ahead w n) s:=hS.world ⟨rfl,rfl,rfl,Nat.le_refl _,fun _ _=>rfl⟩
 have hmod:∀k,(Sort.putRow enc (Sort.ahead w n) g 0 d').heap[k]?=if g=k then(w.heap[k]?).map (onCells (putCells enc 0 d'))else w.heap[k]?:=fun k=>Array.getElem?_modify ..
 have hS2:=hS1.set_row hs (Sort.putRow enc (Sort.ahead w n) g 0 d') c (putCells enc 0 d' c) (ys:=(sortR rows).map rowV) hh
  ⟨rfl,rfl,rfl,by simp[Sort.putRow,mapBlock],fun k hk=>by rw[hmod,if_neg (by omega)];rfl⟩ (by simp[Sort.putRow,mapBlock]) (by rw[hmod,if_pos rfl,hh];rfl) (fun k hk=>by rw[hmod,if_neg (Ne.symm hk)];rfl)
  (by simp[putCells]) (by rw[← hR',List.length_map,List.length_map,hdl,hcs];exact hl) (fun i x hi=>by
   rw[← hR',List.map_map,List.getElem?_map]at hi
   obtain⟨k,hk,rfl⟩:=Option.map_eq_some_iff.1 hi
   have hil:=(List.getElem?_eq_some_iff.1 hk).1
   have hkl:k<rows.length:=by
    have:=hp3.mem_iff.1 (List.mem_of_getElem? hk)
    simpa using this
   obtain⟨v,h1,h2,h3⟩:=henc k
   refine⟨rfl,v,?_,h1⟩
   have hid:i<d'.size:=by simpa using hil
   have hdk:d'[i]=k:=by
    have:=List.getElem?_eq_getElem hil
    rw[hk]at this
    injection this with this
    rw[this,Array.getElem_toList]
   have hic:i<c.size:=by rw[hcs];omega
   simp only[putCells,Array.getElem?_mapIdx,Array.getElem?_eq_getElem hic,Option.map_some,Nat.zero_le,Nat.zero_add,true_and,hid,if_true,Nat.sub_zero]
   rw[getElem!_pos d' i hid,hdk,h2])
 refine⟨G,_,.ret (.tup []),Gh.le.refl G,hS2.world ⟨rfl,rfl,rfl,?_,fun k hk=>?_⟩,.tup #[] [] rfl (fun j v y h=>by simp at h),rfl,rfl⟩
 ·simp[sortWorld,grow]
 ·exact heap_grow_old _ _ hk
theorem Sort0_S (s:St)(xs:List VV):SRet Tryz.prog 21 [.raw (.slice none 0 0),.fn 22 xs] s (.tup []) s:=by
 intro w0 G w vs hS hA
 obtain⟨v1,v2,rfl,r1,r2⟩:=RL_two hA
 cases r1 with
 |raw=>
 refine(Tryz.slices_SortFunc_none (α:=Nat) none 0 v2 w).mono ?_
 rintro e w' ⟨rfl,rfl⟩
 exact⟨G,s,.ret (.tup []),Gh.le.refl G,hS,R.tup #[] [] rfl (fun j v y h=>by simp at h),rfl,rfl⟩
end Go.Proofs.YtadbggfpnhkmbaaGreat
