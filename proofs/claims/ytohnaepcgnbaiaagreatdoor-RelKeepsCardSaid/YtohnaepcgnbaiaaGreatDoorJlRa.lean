/- Walks. Conditions: in the statements. -/
import Derived.Test.YtohnaepcgnbaiaaGreatDoorJlQo
import Derived.Test.YtohnaepcgnbaiaaGreatDoorJlItj
set_option maxHeartbeats 32000000
set_option linter.unusedSimpArgs false
set_option linter.unusedVariables false
set_option maxRecDepth 100000
namespace Go.Proofs.YtohnaepcgnbaiaaGreatDoor
open Go.RowKit
theorem rX {n:Nat}:be true (.int .i64 (n:Int)) (.int .i64 0)=some (.int .i64 (n:Int)):=by
 simp only[be,if_true]
 rw[if_neg (by omega)]
theorem wy {a b:Int}(h:a<=b):be false (.int .i64 a) (.int .i64 b)=some (.int .i64 a):=by
 simp only[be,if_true,Bool.false_eq_true,if_false]
 split
 ·have:a=b:=by omega
  rw[this]
 ·rfl
attribute [-go_sem] bJ bH bG
theorem kM (s:St)(n:Nat)(h:n<=4611686018427387903):SRet Tryz.prog 167 [.int .i64 n] s (.int .i64 n) s:=by
 have h1:=rX (n:=n)
 have h2:be false (.int .i64 (n:Int)) (.int .i64 4611686018427387903)=some (.int .i64 (n:Int)):=wy (by omega)
 refine am Tryz.func167 rfl Tryz.ntmps167 rfl fun Q hQ hQe=>?_
 (repeat'(first|refine Ctl ?_|((with_reducible refine k_ hK ?_);clear hK hE K E)|((with_reducible refine Eof.use hE ?_);(try clear hK hE K E))|((with_reducible refine bZ (fun h=>?_) (fun h=>?_))<;>(try(exfalso;first|assumption|omega)))|((first|(with_reducible first|refine ab fun K E hK hE=>?_|refine d6 ?_|refine dP ?_|refine iY ?_))<;>(try simp(disch:=first|assumption|omega) only[go_sem,seval,h1,h2, *]))))
 (first|refine aq uw hQ ?_|refine d5 uw hQ ?_|refine tX hQ ?_)
 exact⟨_,_,Wk.refl _,Fg.refl _,by first|rfl|simp,rfl⟩
theorem Nh (s:St)(x y:Nat)(h:x+y<=4611686018427387903):SRet Tryz.prog 125 [.int .i64 x,.int .i64 y] s (.int .i64 ((x+y:Nat):Int)) s:=by
 have w1:=kM s x (by omega)
 have w2:=kM s y (by omega)
 have h2:be false (.int .i64 (y:Int)) (.int .i64 (4611686018427387903 - (x:Int)))=some (.int .i64 (y:Int)):=wy (by omega)
 refine am Tryz.func125 rfl Tryz.ntmps125 rfl fun Q hQ hQe=>?_
 (repeat'(first|refine Ctl ?_|((with_reducible refine k_ hK ?_);clear hK hE K E)|((with_reducible refine Eof.use hE ?_);(try clear hK hE K E))|((with_reducible refine bZ (fun h=>?_) (fun h=>?_))<;>(try(exfalso;first|assumption|omega)))|((first|(with_reducible first|refine ab fun K E hK hE=>?_|refine ae lu (w1) ?_|refine ae lu (w2) ?_|refine d6 ?_|refine dP ?_|refine iY ?_))<;>(try simp(disch:=first|assumption|omega) only[go_sem,seval,h2, *]))))
 (first|refine aq uD hQ ?_|refine d5 uD hQ ?_|refine tX hQ ?_)
 exact⟨_,_,Wk.refl _,Fg.refl _,by first|rfl|simp,rfl⟩
theorem JA {x y:Nat}(h:x * y<=4611686018427387903)(hx:0<x):∃q:Int,bF .quo .i64 4611686018427387903 (x:Int)=some (.int .i64 q)/\¬ (y:Int) > q/\¬ q<(y:Int):=by
 have h0:(x:Int)≠0:=by omega
 have e:((4611686018427387903:Int)).tdiv (x:Int)=((4611686018427387903 / x:Nat):Int):=by
  rw[Int.tdiv_eq_ediv_of_nonneg (by omega)]
  rfl
 have h1:4611686018427387903 / x<=4611686018427387903:=Nat.div_le_self _ _
 have h2:y<=4611686018427387903 / x:=(Nat.le_div_iff_mul_le hx).2 (by rw[Nat.mul_comm];exact h)
 refine⟨_,by simp only[bF];rw[if_pos h0],?_,?_⟩
 ·rw[e,bT (by omega) (by omega)];omega
 ·rw[e,bT (by omega) (by omega)];omega
theorem vX (s:St)(x y:Nat)(hx:x<=4611686018427387903)(hy:y<=4611686018427387903)(h:x * y<=4611686018427387903):SRet Tryz.prog 126 [.int .i64 x,.int .i64 y] s (.int .i64 ((x * y:Nat):Int)) s:=by
 have w1:=kM s x hx
 have w2:=kM s y hy
 have hw:IntKind.i64.wrap ((x:Int) * (y:Int))=(x:Int) * (y:Int):=by
  rw[<- Int.natCast_mul,bT (by omega) (by omega)]
 by_cases h0:x=0
 ·subst h0
  clear hx hy h
  refine am Tryz.func126 rfl Tryz.ntmps126 rfl fun Q hQ hQe=>?_
  (repeat'(first|refine Ctl ?_|((with_reducible refine k_ hK ?_);clear hK hE K E)|((with_reducible refine Eof.use hE ?_);(try clear hK hE K E))|((with_reducible refine bZ (fun h=>?_) (fun h=>?_))<;>(try(exfalso;first|assumption|omega)))|((first|(with_reducible first|refine ab fun K E hK hE=>?_|refine ae lu (w1) ?_|refine ae lu (w2) ?_|refine d6 ?_|refine dP ?_|refine iY ?_)|((with_reducible refine pH (fun h=>?_) (fun h=>?_))<;>(try(exfalso;first|assumption|omega))))<;>(try simp(disch:=first|assumption|omega) only[go_sem,seval,hw,Int.natCast_mul, *]))))
  (first|refine aq nN hQ ?_|refine d5 nN hQ ?_|refine tX hQ ?_)
  exact⟨_,_,Wk.refl _,Fg.refl _,by first|rfl|simp,rfl⟩
 ·obtain⟨q,h1,h2,h3⟩:=JA h (by omega)
  have h4:¬ (x:Int)=0:=by omega
  clear hx hy h
  refine am Tryz.func126 rfl Tryz.ntmps126 rfl fun Q hQ hQe=>?_
  (repeat'(first|refine Ctl ?_|((with_reducible refine k_ hK ?_);clear hK hE K E)|((with_reducible refine Eof.use hE ?_);(try clear hK hE K E))|((with_reducible refine bZ (fun h=>?_) (fun h=>?_))<;>(try(exfalso;first|assumption|omega)))|((first|(with_reducible first|refine ab fun K E hK hE=>?_|refine ae lu (w1) ?_|refine ae lu (w2) ?_|refine d6 ?_|refine dP ?_|refine iY ?_)|((with_reducible refine pH (fun h=>?_) (fun h=>?_))<;>(try(exfalso;first|assumption|omega))))<;>(try simp(disch:=first|assumption|omega) only[go_sem,seval,hw,h1,h2,h3,h4,Int.natCast_mul, *]))))
  (first|refine aq nN hQ ?_|refine d5 nN hQ ?_|refine tX hQ ?_)
  exact⟨_,_,Wk.refl _,Fg.refl _,by first|rfl|simp,rfl⟩
theorem vW (s:St)(n:Nat)(h:n<=61):SRet Tryz.prog 127 [.int .i64 n] s (.int .i64 ((2 ^ n:Nat):Int)) s:=by
 have h1:=rX (n:=n)
 have h2:=jD (k:=n) (by omega)
 have h3:¬ (n:Int) > 61:=by omega
 generalize ((2 ^ n:Nat):Int)=P at *
 refine am Tryz.func127 rfl Tryz.ntmps127 rfl fun Q hQ hQe=>?_
 (repeat'(first|refine Ctl ?_|((with_reducible refine k_ hK ?_);clear hK hE K E)|((with_reducible refine Eof.use hE ?_);(try clear hK hE K E))|((with_reducible refine bZ (fun h=>?_) (fun h=>?_))<;>(try(exfalso;first|assumption|omega)))|((first|(with_reducible first|refine ab fun K E hK hE=>?_|refine d6 ?_|refine dP ?_|refine iY ?_))<;>(try simp(disch:=first|assumption|omega) only[go_sem,seval,h1,h2,h3, *]))))
 (first|refine aq uC hQ ?_|refine d5 uC hQ ?_|refine tX hQ ?_)
 exact⟨_,_,Wk.refl _,Fg.refl _,by first|rfl|simp,rfl⟩
end Go.Proofs.YtohnaepcgnbaiaaGreatDoor
