/- Walks. Conditions: in the statements. -/
import Derived.Test.YtohnaepcgnbaiaaGreatDoorJlWa
import Derived.Test.YtohnaepcgnbaiaaGreatDoorJlShelf
import Derived.WalkKit
import Derived.Deep.LoopGhost
set_option maxHeartbeats 32000000
set_option linter.unusedSimpArgs false
set_option linter.unusedVariables false
set_option maxRecDepth 100000
namespace Go.Proofs.YtohnaepcgnbaiaaGreatDoor
open Go.RowKit Go.Lib
theorem Bx {xs ys:TZ}{k:Nat}{x y:Int}(hx:xs[k]?=some x)(hy:ys[k]?=some y):cn (xs.drop k) (ys.drop k)=if x<y then -1 else if y<x then 1 else cn (xs.drop (k+1)) (ys.drop (k+1)):=by
 have h1:=(x_.1 hx).1
 have h2:=(x_.1 hy).1
 have e1:xs[k]=x:=by rw[m_ h1]at hx;injection hx
 have e2:ys[k]=y:=by rw[m_ h2]at hy;injection hy
 rw[c_ h1,c_ h2,e1,e2]
 rfl
def G4 (xs ys:TZ)(k:Nat):Prop:=k<=ys.length/\cn xs ys=cn (xs.drop k) (ys.drop k)
def tZ (xs ys:TZ)(d:Int):Prop:=cn xs ys=d
theorem E5 (ba bb:Option Addr)(b1 o1 c1 b2 o2 c2:Nat)(xs ys:TZ)(w:World)(hl1:xs.length<=140737488355328)(hl2:ys.length<=140737488355328)
  (h1:xs.length=0\/ba=some ⟨b1,o1,none⟩) (h2:ys.length=0\/bb=some ⟨b2,o2,none⟩)
  (hc1:∀(j:Nat) (x:Int),xs[j]?=some x->w.cell? ⟨b1,o1+j,none⟩=some (.int .i64 x)) (hc2:∀(j:Nat) (x:Int),ys[j]?=some x->w.cell? ⟨b2,o2+j,none⟩=some (.int .i64 x)) :
  Calls Tryz.prog 71 #[.slice ba xs.length c1,.slice bb ys.length c2] w fun e w'=>e=.returned (.int .i64 (cn xs ys))/\w'=w:=by
 go_enter Tryz.func71,Tryz.ntmps71
 go_wp2
 go_loopg [11] xs.length (fun g s11 wr=>∃k:Nat,k<=xs.length/\xs.length - k<=g/\s11=.int .i64 k/\wr=w/\Aside (G4 xs ys k))
 case atStart=>exact⟨0,Nat.zero_le _,by omega,rfl,rfl,⟨Nat.zero_le _,rfl⟩⟩
 case round=>
  obtain⟨k,hk,hg,rfl,rfl,A⟩:=hrel
  by_cases hlt:k<xs.length
  ·obtain rfl:ba=some ⟨b1,o1,none⟩:=h1.resolve_left (by omega)
   obtain⟨x,hx⟩:∃x,xs[k]?=some x:=⟨_,m_ hlt⟩
   have g1:=hc1 k x hx
   by_cases hly:k<ys.length
   ·obtain rfl:bb=some ⟨b2,o2,none⟩:=h2.resolve_left (by omega)
    obtain⟨y,hy⟩:∃y,ys[k]?=some y:=⟨_,m_ hly⟩
    have g2:=hc2 k y hy
    have B:=A.out.2.trans (Bx hx hy)
    clear A
    clear hc1 hc2 hx hy h1 h2
    have hcall:=fun w=>Tryz.cmp_Compare_int x y w
    by_cases hxy:x<y
    ·have hcv:Lib.compareInt x y=-1:=by unfold Lib.compareInt;rw[if_pos hxy]
     rw[hcv]at hcall
     rw[if_pos hxy]at B
     have hx2:Aside (tZ xs ys (-1)):=B
     clear B
     clear hcv
     go_wp2_with fail
     refine(hcall _).mono ?_
     rintro e w' ⟨rfl,rfl⟩
     go_wp2
     go_ret
     refine⟨?_,rfl⟩;rw[show cn xs ys=_ from hx2.out];rfl
    ·by_cases hyx:y<x
     ·have hcv:Lib.compareInt x y=1:=by unfold Lib.compareInt;rw[if_neg hxy,if_pos hyx]
      rw[hcv]at hcall
      rw[if_neg hxy,if_pos hyx]at B
      have hx2:Aside (tZ xs ys (1)):=B
      clear B
      clear hcv
      go_wp2_with fail
      refine(hcall _).mono ?_
      rintro e w' ⟨rfl,rfl⟩
      go_wp2
      go_ret
      refine⟨?_,rfl⟩;rw[show cn xs ys=_ from hx2.out];rfl
     ·have hcv:Lib.compareInt x y=0:=by unfold Lib.compareInt;rw[if_neg hxy,if_neg hyx]
      rw[hcv]at hcall
      rw[if_neg hxy,if_neg hyx]at B
      have hx2:Aside (G4 xs ys (k+1)):=⟨hly,B⟩
      clear B
      clear hcv
      go_wp2_with fail
      refine(hcall _).mono ?_
      rintro e w' ⟨rfl,rfl⟩
      skip
      go_wp2
      go_roundg (xs.length - (k+1))
      case measure=>omega
      case rel=>exact⟨k+1,by omega,by omega,by go_num,rfl,hx2⟩
   ·clear hc1 hc2 h1 h2
    have hx2:Aside (tZ xs ys 1):=by
     have h1:=A.out
     have hke:k=ys.length:=by have:=h1.1;omega
     show cn xs ys=_
     rw[h1.2,List.drop_of_length_le (l:=ys) (by omega),c_ hlt]
     exact rfl
    clear hx
    go_wp2
    go_ret
    refine⟨?_,rfl⟩;rw[show cn xs ys=_ from hx2.out];rfl
  ·have hke:k=xs.length:=by omega
   subst hke
   by_cases hlx:xs.length<ys.length
   ·have hx2:Aside (tZ xs ys (-1)):=by
     have h1:=A.out
     show cn xs ys=_
     rw[h1.2,List.drop_of_length_le (l:=xs) (by omega),c_ hlx]
     exact rfl
    clear hc1 hc2 h1 h2 A
    go_wp2
    go_ret
    refine⟨?_,rfl⟩;rw[show cn xs ys=_ from hx2.out];rfl
   ·have hx2:Aside (tZ xs ys 0):=by
     have h1:=A.out
     show cn xs ys=_
     rw[h1.2,List.drop_of_length_le (l:=xs) (by omega),List.drop_of_length_le (l:=ys) (by omega)]
     exact rfl
    clear hc1 hc2 h1 h2 A
    go_wp2
    go_ret
    refine⟨?_,rfl⟩;rw[show cn xs ys=_ from hx2.out];rfl
end Go.Proofs.YtohnaepcgnbaiaaGreatDoor
