/- Walks. Conditions: in the statements. -/
import Derived.Test.YtohnaepcgnbaiaaGreatDoorJlQn
import Derived.Test.YtohnaepcgnbaiaaGreatDoorJlQj
import Derived.Test.YtohnaepcgnbaiaaGreatDoorJlPkj
import Derived.Maps.Range
set_option linter.unusedSimpArgs false
set_option linter.unusedVariables false
set_option maxRecDepth 100000
namespace Go.Proofs.YtohnaepcgnbaiaaGreatDoor
open Go.RowKit Go.Lib Go.Maps
theorem Ew {α:Type}{enc:α->VV}{w0 w:World}{G:Gh}{s:St}(hS:Sim w0 G w s)(m:Nat)(l:List (Int×α))(hm:s m=.map (mpZ enc l))(hl:l.length<=100000000)(hb:∀p,p∈l->-9223372036854775808<=p.1/\p.1<9223372036854775808) :
  ∃D:DataW Unit,w.ownsMap Tryz.prog 3 (fun _=>some (.nil,[])) m l.length D/\Maps.size D=l.length/\(intKeys D).Perm (l.map (·.1)):=by
 have hok:=hS.ok m
 rw[hm]at hok
 obtain⟨_,c,clock,hh,⟨hsz,hst⟩,hx⟩:=hok
 rw[ED]at hsz
 have hat:∀(i:Nat) (e:MapEntry),c[i]?=some e->∃p:Int×α,l[i]?=some p/\e.key=.int .i64 p.1:=fun i e he=>by
  have hi:i<l.length:=by rw[<- hsz];exact(Array.getElem?_eq_some_iff.1 he).1
  obtain⟨e',h1,h2,_⟩:=hx i (.int .i64 l[i].1) (enc l[i].2) (by simp[mpZ,m_ hi])
  rw[he]at h1
  cases h1
  refine⟨l[i],m_ hi,?_⟩
  cases hk:e.key with
  |int k n=>rw[hk]at h2;cases h2;rfl
  |_=>rw[hk]at h2;cases h2
 have hkey:∀p:Int×α,p∈l->keyOf Tryz.prog 3 (.int .i64 p.1)=some (.int .i64 p.1):=fun p hp=>keyOf_int_mk Tryz.underlying3 (by
  obtain⟨h1,h2⟩:=hb p hp
  simp[Lit.wf]
  have:IntKind.i64.min=-9223372036854775808:=by decide
  omega)
 have hrd:∀(i:Nat) (e:MapEntry),c[i]?=some e->∃p:Int×α,l[i]?=some p/\WideElems.rd Tryz.prog 3 (fun _=>some ((.nil:DataW Unit),[])) e=some (.int .i64 p.1,.nil):=fun i e he=>by
  obtain⟨p,h1,h2⟩:=hat i e he
  exact⟨p,h1,by simp[WideElems.rd,h2,hkey p (y_ h1)]⟩
 have hmap:(c.toList.map (WideElems.rg Tryz.prog 3 (fun _=>some ((.nil:DataW Unit),[])))).map (fun p=>_root_.Go.intOf p.1)=l.map (·.1):=by
  apply List.ext_getElem?
  intro i
  simp only[n_,Array.getElem?_toList]
  by_cases hi:i<c.size
  ·obtain⟨p,h1,h2⟩:=hrd i c[i] (Array.getElem?_eq_getElem hi)
   rw[Array.getElem?_eq_getElem hi,h1]
   simp[WideElems.rg_of h2,_root_.Go.intOf]
  ·rw[Array.getElem?_eq_none (by omega),t_ (by omega)]
   rfl
 refine⟨_,⟨c,clock,hh,⟨by unfold maxLen;omega,hst,fun x hx=>?_⟩,by omega,rfl⟩,?_,?_⟩
 ·obtain⟨i,hi⟩:=List.getElem?_of_mem hx
  rw[Array.getElem?_toList]at hi
  obtain⟨p,_,h2⟩:=hrd i x hi
  exact⟨_,h2⟩
 ·rw[Maps.size_eq,length_sorted]
  simp[hsz]
 ·rw[<- hmap]
  exact(Go.WideShapes.sorted_perm _).map _
theorem ii {a b:TZ}(h:a.Perm b):cR a=cR b:=mergeSort_of_perm_i h
theorem xq {G:Gh}{v:Value}{f:FuncId}{B:Nat}(h:R G v (.fn f [.ptr B 0])):v=.func (.func f) #[] #[.pointer (some ⟨B,0,none⟩)]:=by
 cases h with
 |fn f vs xs hs hR=>
 obtain⟨l⟩:=vs
 match l,hs,hR with
 |[a],_,hR=>
  have h1:=hR 0 a _ rfl rfl
  cases h1
  rfl
theorem yZ (s:St)(B m:Nat)(T:TypeId)(l:List (Int×Bool))(hl:l.length<=100000000)(hb:∀p,p∈l->-9223372036854775808<=p.1/\p.1<9223372036854775808)(hB:s B=.obj T [.mp m])(hm:s m=.map (mpZ bP l)) :
  SRet Tryz.prog 164 [.fn 198 [.ptr B 0]] s (cK (cR (l.map (·.1)))) s:=by
 intro w0 G w vs hS hA
 obtain⟨v,rfl,hr⟩:=d7 hA
 obtain rfl:=xq hr
 obtain⟨D,h1,h2,h3⟩:=Ew hS m l hm hl hb
 have hok:=hS.ok B
 rw[hB]at hok
 obtain⟨_,_,c,hh,hsz,hx⟩:=hok
 obtain⟨_,v,hv,hR⟩:=hx 0 (.mp m) rfl
 cases hR
 refine(EJ m l.length B D _ w h1 (by unfold maxLen;omega) (by omega) (hS.lt (by rw[hB];simp)) (by simp[World.cell?,hh,hv])).mono ?_
 rintro e w' ⟨v,ss,rfl,hp,ho,_,hbe⟩
 have ho':w'.ownsRow w.heap.size 3 1 v (cR ss).length ((cR ss).map (Value.int .i64)):=by rw[eJ];exact ho
 obtain⟨G',g1,g2,g3⟩:=fU hS ho' hbe
 exact⟨G',s,.ret (cK (cR ss)),g1,g2,g3,by rw[ii (hp.trans h3)],rfl⟩
theorem yY (s:St)(B:Nat)(T:TypeId)(zs:TZ)(o:Own)(hl:zs.length<=100000000)(hB:s B=.obj T [.lst (aI zs) o]) :
  SRet Tryz.prog 164 [.fn 185 [.ptr B 0]] s (cK (cR zs)) s:=by
 intro w0 G w vs hS hA
 obtain⟨v,rfl,hr⟩:=d7 hA
 obtain rfl:=xq hr
 have hok:=hS.ok B
 rw[hB]at hok
 obtain⟨_,_,c,hh,hsz,hx⟩:=hok
 obtain⟨_,v,hv,hR⟩:=hx 0 (.lst (aI zs) o) rfl
 obtain⟨ba,b,off,cp,rfl,g1,k1⟩:=ig hR
 have hI:ItInts w.heap.size w (.slice ba zs.length cp) zs:=by
  by_cases h0:zs=[]
  ·subst h0;exact .inl ⟨⟨_,_,rfl⟩,rfl⟩
  ·have hne:zs.length≠0:=fun e=>h0 (l_ e)
   rcases g1 with g1|rfl
   ·exact absurd g1 hne
   ·refine .inr ⟨b,off,cp,rfl,?_,fun j hj=>?_⟩
    ·exact hS.K_lt (k1 0 zs[0] (m_ (by omega)))
    ·rw[m_ hj]
     exact hS.K _ _ _ (k1 j _ (m_ hj))
 refine(vq B _ zs (by unfold maxLen;omega) (by omega) w (hS.lt (by rw[hB];simp)) (by simp[World.cell?,hh,hv]) hI).mono ?_
 rintro e w' ⟨v,rfl,ho,_,hbe⟩
 have ho':w'.ownsRow w.heap.size 3 1 v (cR zs).length ((cR zs).map (Value.int .i64)):=by rw[eJ];exact ho
 obtain⟨G',g1,g2,g3⟩:=fU hS ho' hbe
 exact⟨G',s,.ret (cK (cR zs)),g1,g2,g3,rfl,rfl⟩
end Go.Proofs.YtohnaepcgnbaiaaGreatDoor
