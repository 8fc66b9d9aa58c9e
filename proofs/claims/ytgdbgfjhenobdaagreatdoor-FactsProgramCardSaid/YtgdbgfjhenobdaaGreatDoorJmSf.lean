/- Walks of functions that the claim reaches, and plain facts of them. Conditions: those in the statements. -/
import Derived.Test.YtgdbgfjhenobdaaGreatDoorJmWa
import Derived.Test.YtgdbgfjhenobdaaGreatDoorJmShelf
import Derived.WalkKit
import Derived.Deep.LoopGhost
set_option linter.unusedSimpArgs false
set_option linter.unusedVariables false
set_option maxRecDepth 100000
namespace Go.Proofs.YtgdbgfjhenobdaaGreatDoor
open Go.RowKit Go.Lib
theorem cmp_drop {xs ys:List Int}{k:Nat}{x y:Int}(hx:xs[k]?=some x)(hy:ys[k]?=some y):cmpZ (xs.drop k) (ys.drop k)=if x<y then -1 else if y<x then 1 else cmpZ (xs.drop (k+1)) (ys.drop (k+1)):=by
 have h1:=(List.getElem?_eq_some_iff.1 hx).1
 have h2:=(List.getElem?_eq_some_iff.1 hy).1
 have e1:xs[k]=x:=by rw[List.getElem?_eq_getElem h1]at hx;injection hx
 have e2:ys[k]=y:=by rw[List.getElem?_eq_getElem h2]at hy;injection hy
 rw[List.drop_eq_getElem_cons h1,List.drop_eq_getElem_cons h2,e1,e2]
 rfl
def CmpAt (xs ys:List Int)(k:Nat):Prop:=k≤ys.length∧cmpZ xs ys=cmpZ (xs.drop k) (ys.drop k)
def CmpIs (xs ys:List Int)(d:Int):Prop:=cmpZ xs ys=d
set_option maxHeartbeats 2000000 in
theorem cmp_raw (ba bb:Option Addr)(b1 o1 c1 b2 o2 c2:Nat)(xs ys:List Int)(w:World)(hl1:xs.length≤140737488355328)(hl2:ys.length≤140737488355328)
  (h1:xs.length=0∨ba=some ⟨b1,o1,none⟩) (h2:ys.length=0∨bb=some ⟨b2,o2,none⟩)
  (hc1:∀(j:Nat) (x:Int),xs[j]?=some x→w.cell? ⟨b1,o1+j,none⟩=some (.int .i64 x)) (hc2:∀(j:Nat) (x:Int),ys[j]?=some x→w.cell? ⟨b2,o2+j,none⟩=some (.int .i64 x)) :
  Calls Tryz.prog 33 #[.slice ba xs.length c1,.slice bb ys.length c2] w fun e w'=>e=.returned (.int .i64 (cmpZ xs ys))∧w'=w:=by
 go_enter Tryz.func33,Tryz.ntmps33
 go_wp2
 go_loopg [11] xs.length (fun g s11 wr=>∃k:Nat,k≤xs.length∧xs.length - k≤g∧s11=.int .i64 k∧wr=w∧Aside (CmpAt xs ys k))
 case atStart=>exact⟨0,Nat.zero_le _,by omega,rfl,rfl,⟨Nat.zero_le _,rfl⟩⟩
 case round=>
  obtain⟨k,hk,hg,rfl,rfl,A⟩:=hrel
  by_cases hlt:k<xs.length
  ·obtain rfl:ba=some ⟨b1,o1,none⟩:=h1.resolve_left (by omega)
   obtain⟨x,hx⟩:∃x,xs[k]?=some x:=⟨_,List.getElem?_eq_getElem hlt⟩
   have g1:=hc1 k x hx
   by_cases hly:k<ys.length
   ·obtain rfl:bb=some ⟨b2,o2,none⟩:=h2.resolve_left (by omega)
    obtain⟨y,hy⟩:∃y,ys[k]?=some y:=⟨_,List.getElem?_eq_getElem hly⟩
    have g2:=hc2 k y hy
    have B:=A.out.2.trans (cmp_drop hx hy)
    clear A
    clear hc1 hc2 hx hy h1 h2
    have hcall:=fun w=>Tryz.cmp_Compare_int x y w
    by_cases hxy:x<y
    ·have hcv:Lib.compareInt x y=-1:=by unfold Lib.compareInt;rw[if_pos hxy]
     rw[hcv]at hcall
     rw[if_pos hxy]at B
     have hx2:Aside (CmpIs xs ys (-1)):=B
     clear B
     clear hcv
     go_wp2_with fail
     refine(hcall _).mono ?_
     rintro e w' ⟨rfl,rfl⟩
     go_wp2
     go_ret
     refine⟨?_,rfl⟩;rw[show cmpZ xs ys=_ from hx2.out];rfl
    ·by_cases hyx:y<x
     ·have hcv:Lib.compareInt x y=1:=by unfold Lib.compareInt;rw[if_neg hxy,if_pos hyx]
      rw[hcv]at hcall
      rw[if_neg hxy,if_pos hyx]at B
      have hx2:Aside (CmpIs xs ys (1)):=B
      clear B
      clear hcv
      go_wp2_with fail
      refine(hcall _).mono ?_
      rintro e w' ⟨rfl,rfl⟩
      go_wp2
      go_ret
      refine⟨?_,rfl⟩;rw[show cmpZ xs ys=_ from hx2.out];rfl
     ·have hcv:Lib.compareInt x y=0:=by unfold Lib.compareInt;rw[if_neg hxy,if_neg hyx]
      rw[hcv]at hcall
      rw[if_neg hxy,if_neg hyx]at B
      have hx2:Aside (CmpAt xs ys (k+1)):=⟨hly,B⟩
      clear B
      clear hcv
      go_wp2_with fail
      refine(hcall _).mono ?_
      rintro e w' ⟨rfl,rfl⟩
      skip
      go_wp2
      go_roundg (xs.length - (k+1))
      case measure=>omega
      case rel=>exact⟨k+1,by omega,by omega,by go_num,rfl,hx2⟩
   ·clear hc1 hc2 h1 h2
    have hx2:Aside (CmpIs xs ys 1):=by
     have h1:=A.out
     have hke:k=ys.length:=by have:=h1.1;omega
     show cmpZ xs ys=_
     rw[h1.2,List.drop_of_length_le (l:=ys) (by omega),List.drop_eq_getElem_cons hlt]
     exact rfl
    clear hx
    go_wp2
    go_ret
    refine⟨?_,rfl⟩;rw[show cmpZ xs ys=_ from hx2.out];rfl
  ·have hke:k=xs.length:=by omega
   subst hke
   by_cases hlx:xs.length<ys.length
   ·have hx2:Aside (CmpIs xs ys (-1)):=by
     have h1:=A.out
     show cmpZ xs ys=_
     rw[h1.2,List.drop_of_length_le (l:=xs) (by omega),List.drop_eq_getElem_cons hlx]
     exact rfl
    clear hc1 hc2 h1 h2 A
    go_wp2
    go_ret
    refine⟨?_,rfl⟩;rw[show cmpZ xs ys=_ from hx2.out];rfl
   ·have hx2:Aside (CmpIs xs ys 0):=by
     have h1:=A.out
     show cmpZ xs ys=_
     rw[h1.2,List.drop_of_length_le (l:=xs) (by omega),List.drop_of_length_le (l:=ys) (by omega)]
     exact rfl
    clear hc1 hc2 h1 h2 A
    go_wp2
    go_ret
    refine⟨?_,rfl⟩;rw[show cmpZ xs ys=_ from hx2.out];rfl
end Go.Proofs.YtgdbgfjhenobdaaGreatDoor
