/- Walks of functions that the claim reaches, and plain facts of them. Conditions: those in the statements. -/
import Derived.Test.YtohnaepcgnbaiaaGreatDoorJjQo
import Derived.Test.YtohnaepcgnbaiaaGreatDoorJjItj
set_option linter.unusedSimpArgs false
set_option linter.unusedVariables false
set_option maxRecDepth 100000
namespace Go.Proofs.YtohnaepcgnbaiaaGreatDoor
open Go.RowKit
theorem vmax_nat {n:Nat}:vminmax true (.int .i64 (n:Int)) (.int .i64 0)=some (.int .i64 (n:Int)):=by
 simp only[vminmax,if_true]
 rw[if_neg (by omega)]
theorem vmin_le {a b:Int}(h:a≤b):vminmax false (.int .i64 a) (.int .i64 b)=some (.int .i64 a):=by
 simp only[vminmax,if_true,Bool.false_eq_true,if_false]
 split
 ·have:a=b:=by omega
  rw[this]
 ·rfl
attribute [-go_sem] p_and p_shl p_shr
set_option maxHeartbeats 1000000 in
theorem Bcount_S (s:St)(n:Nat)(h:n≤4611686018427387903):SRet Tryz.prog 167 [.int .i64 n] s (.int .i64 n) s:=by
 have h1:=vmax_nat (n:=n)
 have h2:vminmax false (.int .i64 (n:Int)) (.int .i64 4611686018427387903)=some (.int .i64 (n:Int)):=vmin_le (by omega)
 refine G_enter Tryz.func167 rfl Tryz.ntmps167 rfl fun Q hQ hQe=>?_
 (repeat'(first|refine Ctl ?_|((with_reducible refine Kof.use hK ?_);clear hK hE K E)|((with_reducible refine Eof.use hE ?_);(try clear hK hE K E))|((with_reducible refine W_cond (fun h=>?_) (fun h=>?_))<;>(try(exfalso;first|assumption|omega)))|((first|(with_reducible first|refine G_region fun K E hK hE=>?_|refine W_if ?_|refine W_ifS ?_|refine W_and ?_))<;>(try simp(disch:=first|assumption|omega) only[go_sem,seval,h1,h2, *]))))
 (first|refine W_ret res167 hQ ?_|refine W_norm res167 hQ ?_|refine G_pan hQ ?_)
 exact⟨_,_,Wk.refl _,Fg.refl _,by first|rfl|simp,rfl⟩
set_option maxHeartbeats 1000000 in
theorem Badd_S (s:St)(x y:Nat)(h:x+y≤4611686018427387903):SRet Tryz.prog 125 [.int .i64 x,.int .i64 y] s (.int .i64 ((x+y:Nat):Int)) s:=by
 have w1:=Bcount_S s x (by omega)
 have w2:=Bcount_S s y (by omega)
 have h2:vminmax false (.int .i64 (y:Int)) (.int .i64 (4611686018427387903 - (x:Int)))=some (.int .i64 (y:Int)):=vmin_le (by omega)
 refine G_enter Tryz.func125 rfl Tryz.ntmps125 rfl fun Q hQ hQe=>?_
 (repeat'(first|refine Ctl ?_|((with_reducible refine Kof.use hK ?_);clear hK hE K E)|((with_reducible refine Eof.use hE ?_);(try clear hK hE K E))|((with_reducible refine W_cond (fun h=>?_) (fun h=>?_))<;>(try(exfalso;first|assumption|omega)))|((first|(with_reducible first|refine G_region fun K E hK hE=>?_|refine call_ret can167 (w1) ?_|refine call_ret can167 (w2) ?_|refine W_if ?_|refine W_ifS ?_|refine W_and ?_))<;>(try simp(disch:=first|assumption|omega) only[go_sem,seval,h2, *]))))
 (first|refine W_ret res125 hQ ?_|refine W_norm res125 hQ ?_|refine G_pan hQ ?_)
 exact⟨_,_,Wk.refl _,Fg.refl _,by first|rfl|simp,rfl⟩
theorem quo_le {x y:Nat}(h:x * y≤4611686018427387903)(hx:0<x):∃q:Int,vint .quo .i64 4611686018427387903 (x:Int)=some (.int .i64 q)∧¬ (y:Int) > q∧¬ q<(y:Int):=by
 have h0:(x:Int)≠0:=by omega
 have e:((4611686018427387903:Int)).tdiv (x:Int)=((4611686018427387903 / x:Nat):Int):=by
  rw[Int.tdiv_eq_ediv_of_nonneg (by omega)]
  rfl
 have h1:4611686018427387903 / x≤4611686018427387903:=Nat.div_le_self _ _
 have h2:y≤4611686018427387903 / x:=(Nat.le_div_iff_mul_le hx).2 (by rw[Nat.mul_comm];exact h)
 refine⟨_,by simp only[vint];rw[if_pos h0],?_,?_⟩
 ·rw[e,wrap_i64 (by omega) (by omega)];omega
 ·rw[e,wrap_i64 (by omega) (by omega)];omega
set_option maxHeartbeats 1000000 in
theorem Bmul_S (s:St)(x y:Nat)(hx:x≤4611686018427387903)(hy:y≤4611686018427387903)(h:x * y≤4611686018427387903):SRet Tryz.prog 126 [.int .i64 x,.int .i64 y] s (.int .i64 ((x * y:Nat):Int)) s:=by
 have w1:=Bcount_S s x hx
 have w2:=Bcount_S s y hy
 have hw:IntKind.i64.wrap ((x:Int) * (y:Int))=(x:Int) * (y:Int):=by
  rw[← Int.natCast_mul,wrap_i64 (by omega) (by omega)]
 by_cases h0:x=0
 ·subst h0
  clear hx hy h
  refine G_enter Tryz.func126 rfl Tryz.ntmps126 rfl fun Q hQ hQe=>?_
  (repeat'(first|refine Ctl ?_|((with_reducible refine Kof.use hK ?_);clear hK hE K E)|((with_reducible refine Eof.use hE ?_);(try clear hK hE K E))|((with_reducible refine W_cond (fun h=>?_) (fun h=>?_))<;>(try(exfalso;first|assumption|omega)))|((first|(with_reducible first|refine G_region fun K E hK hE=>?_|refine call_ret can167 (w1) ?_|refine call_ret can167 (w2) ?_|refine W_if ?_|refine W_ifS ?_|refine W_and ?_)|((with_reducible refine W_gd (fun h=>?_) (fun h=>?_))<;>(try(exfalso;first|assumption|omega))))<;>(try simp(disch:=first|assumption|omega) only[go_sem,seval,hw,Int.natCast_mul, *]))))
  (first|refine W_ret res126 hQ ?_|refine W_norm res126 hQ ?_|refine G_pan hQ ?_)
  exact⟨_,_,Wk.refl _,Fg.refl _,by first|rfl|simp,rfl⟩
 ·obtain⟨q,h1,h2,h3⟩:=quo_le h (by omega)
  have h4:¬ (x:Int)=0:=by omega
  clear hx hy h
  refine G_enter Tryz.func126 rfl Tryz.ntmps126 rfl fun Q hQ hQe=>?_
  (repeat'(first|refine Ctl ?_|((with_reducible refine Kof.use hK ?_);clear hK hE K E)|((with_reducible refine Eof.use hE ?_);(try clear hK hE K E))|((with_reducible refine W_cond (fun h=>?_) (fun h=>?_))<;>(try(exfalso;first|assumption|omega)))|((first|(with_reducible first|refine G_region fun K E hK hE=>?_|refine call_ret can167 (w1) ?_|refine call_ret can167 (w2) ?_|refine W_if ?_|refine W_ifS ?_|refine W_and ?_)|((with_reducible refine W_gd (fun h=>?_) (fun h=>?_))<;>(try(exfalso;first|assumption|omega))))<;>(try simp(disch:=first|assumption|omega) only[go_sem,seval,hw,h1,h2,h3,h4,Int.natCast_mul, *]))))
  (first|refine W_ret res126 hQ ?_|refine W_norm res126 hQ ?_|refine G_pan hQ ?_)
  exact⟨_,_,Wk.refl _,Fg.refl _,by first|rfl|simp,rfl⟩
set_option maxHeartbeats 1000000 in
theorem Bpow_S (s:St)(n:Nat)(h:n≤61):SRet Tryz.prog 127 [.int .i64 n] s (.int .i64 ((2 ^ n:Nat):Int)) s:=by
 have h1:=vmax_nat (n:=n)
 have h2:=shl_one (k:=n) (by omega)
 have h3:¬ (n:Int) > 61:=by omega
 generalize ((2 ^ n:Nat):Int)=P at *
 refine G_enter Tryz.func127 rfl Tryz.ntmps127 rfl fun Q hQ hQe=>?_
 (repeat'(first|refine Ctl ?_|((with_reducible refine Kof.use hK ?_);clear hK hE K E)|((with_reducible refine Eof.use hE ?_);(try clear hK hE K E))|((with_reducible refine W_cond (fun h=>?_) (fun h=>?_))<;>(try(exfalso;first|assumption|omega)))|((first|(with_reducible first|refine G_region fun K E hK hE=>?_|refine W_if ?_|refine W_ifS ?_|refine W_and ?_))<;>(try simp(disch:=first|assumption|omega) only[go_sem,seval,h1,h2,h3, *]))))
 (first|refine W_ret res127 hQ ?_|refine W_norm res127 hQ ?_|refine G_pan hQ ?_)
 exact⟨_,_,Wk.refl _,Fg.refl _,by first|rfl|simp,rfl⟩
end Go.Proofs.YtohnaepcgnbaiaaGreatDoor
