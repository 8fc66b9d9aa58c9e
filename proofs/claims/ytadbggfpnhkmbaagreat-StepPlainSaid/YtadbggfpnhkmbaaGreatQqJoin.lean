/- Walks of functions that the claim reaches, and plain facts of them. Conditions: those in the statements. -/
import Derived.Test.YtadbggfpnhkmbaaGreatQqGpj
import Derived.Test.YtadbggfpnhkmbaaGreatQqShelf
set_option linter.unusedSimpArgs false
set_option linter.unusedVariables false
namespace Go.Proofs.YtadbggfpnhkmbaaGreat
open Go.RowKit
theorem Repeat_S (x:List UInt8)(n:Nat)(hn:n≤9223372036854775807)(hl:x.length * n≤140737488355328)(s:St) :
  SRet Tryz.prog 94 [.str x,.int .i64 (n:Int)] s (.str (Lib.repeatL x n)) s:=by
 intro w0 G w vs hS hA
 obtain⟨a,b,rfl,ha,hb⟩:=RL_two hA
 cases ha with
 |str a=>
  cases hb with
  |int k m=>
   refine Calls.mono (Tryz.strings_Repeat ⟨a⟩ n w hn (by simpa [ByteArray.size]using hl)) fun e w' h=>?_
   obtain⟨rfl,hw⟩:=h
   exact⟨G,s,.ret (.str (Lib.repeatL a.toList n)),Gh.le.refl G,hS.world hw,by
    have:=R.str (G:=G) (Lib.repeatL a.toList n).toArray
    simpa [RE]using this,rfl,rfl⟩
theorem Join_S (xs:List (List UInt8))(o:Own)(sep:List UInt8)(hl:(Lib.join xs sep).length≤140737488355328)(hN:xs.length≤140737488355328)(s:St) :
  SRet Tryz.prog 95 [.lst (strs xs) o,.str sep] s (.str (Lib.join xs sep)) s:=by
 intro w0 G w vs hS hA
 obtain⟨a,b,rfl,ha,hb⟩:=RL_two hA
 cases hb with
 |str sepa=>
  generalize hys:strs xs=ys at ha
  cases ha with
  |emp ad cap o ho=>
   have hx:xs=[]:=by cases xs<;>simp_all [strs]
   subst hx
   refine Calls.mono (Tryz.strings_Join_none ad cap ⟨sepa⟩ w) fun e w' h=>?_
   obtain⟨rfl,rfl⟩:=h
   exact⟨G,s,.ret (.str []),Gh.le.refl G,hS,by
    have:=R.str (G:=G) #[]
    simpa [RE]using this,by simp[Lib.join_nil],rfl⟩
  |lst bk off len cap sz xs' o f hlen hc hz h1 hK hR ho=>
   subst hys
   have hlen':len=xs.length:=by rw[← hlen];simp[strs]
   subst hlen'
   have hcell:∀(j:Nat) (x:List UInt8),xs[j]?=some x→w.cell? ⟨bk,off+j,none⟩=some (.string ⟨x.toArray⟩):=by
    intro j x hj
    have hlt:j<xs.length:=(List.getElem?_eq_some_iff.1 hj).1
    have hx1:(strs xs)[j]?=some [.str x]:=by simp[strs,hj]
    have hsz:sz=1:=by
     have:=hz [.str x] (List.mem_of_getElem? hx1)
     simpa using this.symm
    subst hsz
    have h2:=hS.K _ _ _ (hK j 0 hlt (by omega))
    have h3:=hR j 0 [.str x] (.str x) hx1 rfl
    generalize f j 0=v at h2 h3
    cases h3 with
    |str q=>simpa using h2
   rcases Nat.eq_zero_or_pos xs.length with h0|h0
   ·have hx:xs=[]:=List.length_eq_zero_iff.1 h0
    subst hx
    refine Calls.mono (Tryz.strings_Join_none (some ⟨bk,off,none⟩) cap ⟨sepa⟩ w) fun e w' h=>?_
    obtain⟨rfl,rfl⟩:=h
    exact⟨G,s,.ret (.str []),Gh.le.refl G,hS,by
     have:=R.str (G:=G) #[]
     simpa [RE]using this,by simp[Lib.join_nil],rfl⟩
   ·obtain⟨x0,hx0⟩:∃x0,xs[0]?=some x0:=⟨xs[0],by simp[h0]⟩
    have hbk:bk<w.heap.size:=World.block_lt_of_cell? w ⟨bk,off+0,none⟩ (hcell 0 x0 hx0)
    have hmap:(xs.map fun l=>(⟨l.toArray⟩:ByteArray)).map (fun x=>x.data.toList)=xs:=by
     rw[List.map_map]
     conv=>rhs;rw[← List.map_id xs]
     exact List.map_congr_left fun _ _=>by simp
    have key:=Tryz.strings_Join bk off cap (xs.map fun l=>(⟨l.toArray⟩:ByteArray)) ⟨sepa⟩ w (by
     intro j x hj
     rw[List.getElem?_map]at hj
     obtain⟨y,hy,rfl⟩:=Option.map_eq_some_iff.1 hj
     exact hcell j y hy) hbk (by simpa using hN) (by simpa using hc) (by rw[hmap];exact hl)
    rw[hmap]at key
    simp only[List.length_map]at key
    refine Calls.mono key fun e w' h=>?_
    obtain⟨rfl,hw⟩:=h
    exact⟨G,s,.ret (.str (Lib.join xs sepa.toList)),Gh.le.refl G,hS.world hw,by
     have:=R.str (G:=G) (Lib.join xs sepa.toList).toArray
     simpa [RE]using this,rfl,rfl⟩
end Go.Proofs.YtadbggfpnhkmbaaGreat
