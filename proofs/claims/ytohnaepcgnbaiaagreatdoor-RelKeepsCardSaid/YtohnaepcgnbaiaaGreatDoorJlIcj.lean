/- Walks. Conditions: in the statements. -/
import Derived.Test.YtohnaepcgnbaiaaGreatDoorJlPkj
import Derived.Deep.Heap
set_option maxHeartbeats 32000000
set_option linter.unusedSimpArgs false
set_option linter.unusedVariables false
set_option maxRecDepth 100000
namespace Go.Proofs.YtohnaepcgnbaiaaGreatDoor
open Go.RowKit
theorem En:cv (.pointer none)=.raw (.pointer none):=rfl
attribute [go_sem] En
structure HTab (s:St) (p g:Nat) (ps:List Pl) (l u:Int):Prop where
 o:s p=.obj 161 [.mrw g ps.length,.int .i64 l,.int .i64 u]
 r:s g=.row 215 5 (ci ps)
theorem sM (n:Nat):(List.replicate n [VV.int .i64 0,.int .i64 0,.int .i64 0,.int .i64 0,.int .i64 0]).flatten=ci (List.replicate n .em):=by
 simp[ci,List.map_replicate,plC]
theorem tW (s:St)(p g:Nat)(ps:List Pl)(l u:Int)(hT:HTab s p g ps l u)(hn:0<ps.length) :
  SRet Tryz.prog 144 [.ptr p 0] s (.bool true) s:=by
 obtain⟨h,hg⟩:=hT
 have hni:(0:Int)<(ps.length:Int):=by omega
 generalize ps.length=n at *
 have hpf:s p≠.free:=by rw[h];simp
 refine am Tryz.func144 rfl Tryz.ntmps144 rfl fun Q hQ hQe=>?_
 (repeat'(first|refine Ctl ?_|((with_reducible refine k_ hK ?_);clear hK hE K E)|(((with_reducible refine ab fun K E hK hE=>?_))<;>(try simp(disch:=assumption) only[go_sem,seval, *]))))
 all_goals(refine aq Ai hQ ?_)
 all_goals(refine⟨_,_,Wk.of_eq ?_,?_,rfl,rfl⟩)
 all_goals first|rfl|(exact bK)
theorem M4 (t : St) : SCalls Tryz.prog 55 [] t fun w u => ∃ p g, w = .ret (.ptr p 0) /\ t g = .free /\ t p = .free /\ ¬ p = g /\
      u=(t.set g (.row 215 5 (ci (List.replicate 16 .em)))).set p (.obj 161 [.mrw g 16,.int .i64 0,.int .i64 0]):=by
  have hz:=sM 16
  generalize ci (List.replicate 16 .em)=Z at *
  refine am Tryz.func55 rfl Tryz.ntmps55 rfl fun Q hQ hQe=>?_
  (repeat'(first|refine Ctl ?_|((with_reducible refine k_ hK ?_);clear hK hE K E)|((first|(with_reducible refine ab fun K E hK hE=>?_)|((with_reducible refine au (fun b hb=>?_));(repeat(obtain⟨_,hb⟩:=hb))))<;>(try simp(disch:=assumption) only[go_sem,seval,hz, *]))))
  all_goals(refine aq F4 hQ ?_)
  rename_i b1 hb1 n1 n2
  exact⟨_,_,Wk.refl _,Fg.refl _,b,b1,rfl,hb1,hb,n1,by rw[<- hz];rfl⟩
theorem Cq (s:St)(p g j r:Nat)(ps:List Pl)(ka kb kc l u v:Int)(bo:Bool)(hT:HTab s p g ps l u)(hj:ps.length=2 ^ j)(hj2:j<=40)
  (hf:dY ps (ka,kb,kc) ps.length (cj ps.length (ka,kb,kc))=some (r,bo)) (hv:bo=true->ps[r]?=some (.fl (ka,kb,kc) v)) :
  SRet Tryz.prog 112 [.ptr p 0,jp ka kb kc] s (.tup (if bo then [.int .i64 v,.int .i64 0] else [.int .i64 0,.int .i64 3])) s:=by
 have w1:=fun(t:St) (ht:HTab t p g ps l u)=>tW t p g ps l u ht (by rw[hj];exact Nat.pow_pos (by omega))
 have w2:=fun(t:St) (h1:t p=.obj 161 [.mrw g ps.length,.int .i64 l,.int .i64 u]) (h2:t g=.row 215 5 (ci ps))=>rP t p g j r ps ka kb kc l u bo hj hj2 h1 h2 hf
 replace w1:=fun(t:St) (h1:t p=.obj 161 [.mrw g ps.length,.int .i64 l,.int .i64 u]) (h2:t g=.row 215 5 (ci ps))=>w1 t ⟨h1,h2⟩
 obtain⟨h,hg⟩:=hT
 have hpf:s p≠.free:=by rw[h];simp
 have hgf:s g≠.free:=by rw[hg];simp
 have hpg:¬ p=g:=fun e=>by rw[e,hg]at h;cases h
 have hgp:¬ g=p:=fun e=>hpg e.symm
 simp only[jp]at w1 w2 ⊢
 cases bo with
 |true=>
  have hkl:=hv rfl
  have hat:=jK hkl
  have hr:r<ps.length:=(x_.1 hkl).1
  have hin:=mC hr
  have hat4:(ci ps)[r * 5+4]?=some (.int .i64 v):=by
   have:((ci ps).drop (r * 5)).take 5=_:=hat
   have h4:(((ci ps).drop (r * 5)).take 5)[4]?=some (.int .i64 v):=by rw[this];rfl
   rw[List.getElem?_take_of_lt (by omega),List.getElem?_drop]at h4
   exact h4
  have hlen:=ij ps
  clear hf hv hj
  generalize ps.length=n at *
  generalize ci ps=X at *
  have hri:(0:Int)<=r:=Int.natCast_nonneg _
  simp only[if_true]
  refine am Tryz.func112 rfl Tryz.ntmps112 rfl fun Q hQ hQe=>?_
  (repeat'(first|refine Ctl ?_|((with_reducible refine k_ hK ?_);clear hK hE K E)|((with_reducible refine bZ (fun h=>?_) (fun h=>?_))<;>(try(exfalso;assumption)))|((first|(with_reducible first|refine ab fun K E hK hE=>?_|refine ae vB (w1 _ ac ac) ?_|refine ae rE (w2 _ ac ac) ?_|refine d6 ?_)|((with_reducible refine au (fun b hb=>?_));(try(obtain⟨_,_⟩:=nef hb hpf;obtain⟨_,_⟩:=nef hb hgf))))<;>(try simp(disch:=assumption) only[go_sem,seval,hat4, *]))))
  all_goals(refine aq uG hQ ?_)
  all_goals(refine⟨_,_,Wk.of_eq ?_,?_,rfl,rfl⟩)
  all_goals first|rfl|(exact bK)
 |false=>
  clear hf hv hj
  generalize ps.length=n at *
  generalize ci ps=X at *
  simp only[Bool.false_eq_true,if_false]
  refine am Tryz.func112 rfl Tryz.ntmps112 rfl fun Q hQ hQe=>?_
  (repeat'(first|refine Ctl ?_|((with_reducible refine k_ hK ?_);clear hK hE K E)|((with_reducible refine bZ (fun h=>?_) (fun h=>?_))<;>(try(exfalso;assumption)))|((first|(with_reducible first|refine ab fun K E hK hE=>?_|refine ae vB (w1 _ ac ac) ?_|refine ae rE (w2 _ ac ac) ?_)|((with_reducible refine au (fun b hb=>?_));(try(obtain⟨_,_⟩:=nef hb hpf;obtain⟨_,_⟩:=nef hb hgf))))<;>(try simp(disch:=assumption) only[go_sem,seval, *]))))
  all_goals(refine aq uG hQ ?_)
  all_goals(refine⟨_,_,Wk.of_eq ?_,?_,rfl,rfl⟩)
  all_goals first|rfl|(exact bK)
theorem p9 (q:Pl)(ps:List Pl):ci (q::ps)=plC q++ci ps:=by simp[ci]
theorem nR (q:Pl):∀{ps:List Pl} {k:Nat},k<ps.length->splice (ci ps) (k * 5) (plC q)=ci (ps.set k q)
 |[],k,h=>by simp at h
 |p::ps,0,h=>by
  simp only[splice,List.set_cons_zero,p9,Nat.zero_mul,List.take_zero,List.nil_append,Nat.zero_add,gA]
  rw[List.drop_left' (gA p)]
 |p::ps,k+1,h=>by
  have ih:=nR q (ps:=ps) (k:=k) (by simpa using h)
  simp only[splice,List.set_cons_succ,p9,gA]at ih ⊢
  rw[<- ih]
  rw[show (k+1) * 5=(plC p).length+k * 5 by rw[gA];omega,show (plC p).length+k * 5+5=(plC p).length+(k * 5+5) by omega]
  rw[List.take_append,List.drop_append,s_ (by omega),List.drop_eq_nil_of_le (by omega)]
  simp only[Nat.add_sub_cancel_left,List.nil_append,List.append_assoc]
def pE (acc:List Pl)(q:Pl):List Pl:=match q with
 |.em=>acc
 |.fl key v=>match dY acc key acc.length (cj acc.length key)with
  |some (k,_)=>acc.set k (.fl key v)
  |none=>acc
def bQ (ps:List Pl)(i:Nat):List Pl:=(ps.take i).foldl pE (List.replicate (ps.length * 2) .em)
theorem Bf (acc:List Pl)(q:Pl):(pE acc q).length=acc.length:=by
 unfold pE
 split
 ·rfl
 ·split
  ·simp
  ·rfl
theorem oJ (ps:List Pl):bQ ps 0=List.replicate (ps.length * 2) .em:=by simp[bQ]
theorem oK {ps:List Pl}{i:Nat}{q:Pl}(h:ps[i]?=some q):bQ ps (i+1)=pE (bQ ps i) q:=by
 have hi:=(x_.1 h).1
 have hq:=(x_.1 h).2
 unfold bQ
 rw[List.take_add_one,h]
 simp[List.foldl_append]
theorem dX (ps:List Pl):∀i,(bQ ps i).length=ps.length * 2
 |i=>by
  unfold bQ
  generalize ps.take i=l
  suffices h:∀(l acc:List Pl),(l.foldl pE acc).length=acc.length by rw[h];simp
  intro l
  induction l with
  |nil=>intro acc;rfl
  |cons q l ih=>intro acc;rw[List.foldl_cons,ih,Bf]
theorem zj (s:St)(p g:Nat)(ps:List Pl)(l u:Int)(hT:HTab s p g ps l u)(hn:ps.length<=2 ^ 40)(h0:0<=u)(hu:4 * u<3 * (ps.length:Int)) :
  SRet Tryz.prog 146 [.ptr p 0] s (.tup []) s:=by
 obtain⟨h,hg⟩:=hT
 have hu2:4 * u<3 * (ps.length:Int):=hu
 have hnn:(0:Int)<=(ps.length:Int):=by omega
 have hn2:(ps.length:Int)<=2 ^ 40:=by omega
 generalize (ps.length)=n at *
 have hpf:s p≠.free:=by rw[h];simp
 refine am Tryz.func146 rfl Tryz.ntmps146 rfl fun Q hQ hQe=>?_
 (repeat'(first|refine Ctl ?_|(with_reducible first|(refine k_ hK ?_;clear hK hE K E)|(refine k_ hKh ?_;clear hKh Kh)|refine ax 0 [] [0,1,2,3,4,5,6,7,8,9,10,11] hQe fun K E hK hE=>?_)|((with_reducible refine bZ (fun h=>?_) (fun h=>?_))<;>(try(exfalso;assumption)))|(((with_reducible refine aG fun Kh hKh=>?_))<;>(try simp(disch:=omega) only[go_sem,seval, *]))))
 all_goals(refine aq ux hQ ?_)
 all_goals(refine⟨_,_,Wk.of_eq ?_,?_,rfl,rfl⟩)
 all_goals first|rfl|(exact bK)
theorem zi (s:St)(p g j:Nat)(ps:List Pl)(l u:Int)(hT:HTab s p g ps l u)(hj:ps.length=2 ^ j)(hj2:j<=30)(h0:0<=u)(hl:0<=l)(hl2:l<=2 ^ 40)(hu:3 * (ps.length:Int)<=4 * u)(hu2:u<=2 ^ 40)(hlu:(ps.length:Int)<=2 * l)
  (hF:∀(i:Nat) (key:K3) (v:Int),ps[i]?=some (.fl key v)->∃(k:Nat) (bo:Bool),k<ps.length * 2/\dY (bQ ps i) key (ps.length * 2) (cj (ps.length * 2) key)=some (k,bo)) :
  SCalls Tryz.prog 146 [.ptr p 0] s fun w t=>∃g',w=.ret (.tup [])/\s g'=.free /\
   t=(s.set g' (.row 215 5 (ci (bQ ps ps.length)))).set p (.obj 161 [.mrw g' (ps.length * 2),.int .i64 l,.int .i64 l]):=by
 obtain⟨h,hg⟩:=hT
 have hnn:(0:Int)<(ps.length:Int):=by
  have:0<ps.length:=by rw[hj];exact Nat.pow_pos (by omega)
  omega
 have hn2:(ps.length:Int)<=2 ^ 30:=by
  have:ps.length<=2 ^ 30:=by rw[hj];exact Nat.pow_le_pow_right (by omega) hj2
  omega
 have hn1:¬ 4 * u<3 * (ps.length:Int):=by omega
 have hn3:2 * l>=(ps.length:Int):=hlu
 have hpf:s p≠.free:=by rw[h];simp
 have hgf:s g≠.free:=by rw[hg];simp
 have hpg:¬ p=g:=fun e=>by rw[e,hg]at h;cases h
 have hgp:¬ g=p:=fun e=>hpg e.symm
 have hz:=sM (ps.length * 2)
 rw[<- oJ]at hz
 have HF:=o_ hF
 have HJ:=o_ hj
 obtain⟨n,hn⟩:∃n,n=ps.length:=⟨_,rfl⟩
 rw[<- hn]at h hnn hn2 hn1 hn3 hz ⊢
 have HN:=o_ hn
 clear hn hF hj hu hlu
 have htn:((n:Int) * 2).toNat=n * 2:=by omega
 refine am Tryz.func146 rfl Tryz.ntmps146 rfl fun Q hQ hQe=>?_
 (repeat'(first|refine Ctl ?_|(with_reducible first|(refine k_ hK ?_;clear hK hE K E)|(refine k_ hKh ?_;clear hKh Kh)|(refine k_ hKb (aC ?_);clear hKb Kb)|refine ax 0 [] [0,1,2,3,4,5,6,7,8,9,10,11] hQe fun K E hK hE=>?_|refine ax 5 [([0,1,2,4,5,6,7],3,[[0,1,4,5,6,7]]),([8,9],10,[[],[1]]),([11,12],13,[[],[],[]])] [] hQe fun K E hK hE=>?_)|((with_reducible refine bZ (fun h=>?_) (fun h=>?_))<;>(try(exfalso;assumption)))|((first|(with_reducible first|refine ab fun K E hK hE=>?_|refine ay fun Kh hKh=>?_|refine aG fun Kh hKh=>?_|refine aB fun Kb hKb=>?_|refine iY ?_)|((with_reducible refine au (fun b hb=>?_));(try(obtain⟨_,_⟩:=nef hb hpf;obtain⟨_,_⟩:=nef hb hgf))))<;>(try simp(disch:=omega) only[go_sem,seval,htn,hz, *]))))
 have hgb:¬ g=b:=by assumption
 have hbg:¬ b=g:=by assumption
 have hpb:¬ p=b:=by assumption
 have hbp:¬ b=p:=by assumption
 generalize b=g' at *
 refine bV (fun m env s'=>∃(i:Nat),i<=n/\m+i=n/\s'=(s.set g' (.row 215 5 (ci (bQ ps i)))).set p (.obj 161 [.mrw g' (n * 2),.int .i64 l,.int .i64 l]) /\
  env 0=.ptr p 0/\env 47=.mrw g n/\env 48=.int .i64 n/\env 49=.int .i64 i) n ?_ ?_
 ·exact⟨_,Fg.refl _,0,by omega,by omega,rfl,ac,ac,ac,ac⟩
 ·rintro m env s' ⟨i,hi,hm,rfl,e0,e47,e48,e49⟩
  have hii:(0:Int)<=i:=Int.natCast_nonneg _
  have hgl:(bQ ps i).length=n * 2:=by rw[dX,HN.out]
  have hpl:(ci (bQ ps i)).length=n * 2 * 5:=by rw[ij,hgl]
  by_cases hlt:i<n
  ·have hkl:ps[i]?=some (ps[i]'(HN.out ▸ hlt)):=m_ _
   generalize ps[i]'(HN.out ▸ hlt)=q at hkl
   have hat:=jK hkl
   have hin:=mC (HN.out ▸ hlt)
   have hsu:=oK hkl
   cases q with
   |em=>
    simp only[plC]at hat
    simp only[pE]at hsu
    rw[<- hsu]at hpl ⊢
    clear hkl hgl hsu
    (repeat'(first|refine Ctl ?_|((with_reducible refine k_ hK ?_);clear hK hE K E)|((with_reducible refine bZ (fun h=>?_) (fun h=>?_))<;>(try(exfalso;assumption)))|((first|(with_reducible refine ab fun K E hK hE=>?_)|((with_reducible refine au (fun b hb=>?_));(repeat(obtain⟨_,hb⟩:=hb));(try(obtain⟨_,_⟩:=nef hb hpf;obtain⟨_,_⟩:=nef hb hgf))))<;>(try simp(disch:=omega) only[go_sem,seval,hat, *]))))
    all_goals exact⟨_,w_ _ (by rw[j_ _ _ (‹_›),j_ _ _ (‹_›)];assumption),m - 1,by omega,i+1,by omega,by omega,rfl,ac,ac,ac,ac⟩
   |fl key v=>
    obtain⟨ka,kb,kc⟩:=key
    obtain⟨k,bo,hk,hf⟩:=HF.out i (ka,kb,kc) v hkl
    simp only[plC]at hat
    rw[<- HN.out]at hk hf
    have w1:=fun(t:St) (h1:t p=.obj 161 [.mrw g' (n * 2),.int .i64 l,.int .i64 l]) (h2:t g'=.row 215 5 (ci (bQ ps i)))=>
     rP t p g' (j+1) k (bQ ps i) ka kb kc l l bo (by rw[dX,HJ.out,Nat.pow_succ]) (by omega) (by rw[hgl];exact h1) h2 (by rw[hgl];exact hf)
    simp only[jp]at w1
    have hsp:=nR (.fl (ka,kb,kc) v) (ps:=bQ ps i) (k:=k) (by rw[hgl];exact hk)
    have hsu2:bQ ps (i+1)=(bQ ps i).set k (.fl (ka,kb,kc) v):=by
     rw[hsu]
     simp only[pE,hgl,hf]
    rw[<- hsu2]at hsp
    simp only[plC]at hsp
    clear hkl hgl hsu hf hsu2
    generalize ci (bQ ps i)=X at *
    have hki:(0:Int)<=k:=Int.natCast_nonneg _
    have hk5:k * 5+5<=n * 2 * 5:=by omega
    (repeat'(first|refine Ctl ?_|(with_reducible first|(refine k_ hK ?_;clear hK hE K E)|(refine k_ hKh ?_;clear hKh Kh)|(refine k_ hKb (aC ?_);clear hKb Kb)|refine ax 11 [([0,1,2,3,4,5,6],7,[[]])] [] hQe fun K E hK hE=>?_)|((with_reducible refine bZ (fun h=>?_) (fun h=>?_))<;>(try(exfalso;assumption)))|((first|(with_reducible first|refine ab fun K E hK hE=>?_|refine ae rE (w1 _ ac ac) ?_|refine ay fun Kh hKh=>?_|refine aG fun Kh hKh=>?_|refine aB fun Kb hKb=>?_)|((with_reducible refine au (fun b hb=>?_));(repeat(obtain⟨_,hb⟩:=hb));(try(obtain⟨_,_⟩:=nef hb hpf;obtain⟨_,_⟩:=nef hb hgf))))<;>(try simp(disch:=first|assumption|omega) only[go_sem,seval,hat,hsp, *]))))
    all_goals exact⟨_,w_ _ (by rw[j_ _ _ (‹_›),j_ _ _ (‹_›)];assumption),m - 1,by omega,i+1,by omega,by omega,rfl,ac,ac,ac,ac⟩
  ·have hie:i=n:=by omega
   subst hie
   (repeat'(first|refine Ctl ?_|((with_reducible refine k_ hK ?_);clear hK hE K E)|((with_reducible refine bZ (fun h=>?_) (fun h=>?_))<;>(try(exfalso;assumption)))|(((with_reducible refine ab fun K E hK hE=>?_))<;>(try simp(disch:=assumption) only[go_sem,seval, *]))))
   all_goals(refine d5 ux hQ ?_)
   all_goals exact⟨_,_,Wk.refl _,Fg.refl _,g',rfl,‹_›,rfl⟩
def cG (ps:List Pl)(l:Nat):List Pl:=if 4 * l<3 * ps.length then ps else bQ ps ps.length
theorem Cp (s:St)(p g j l:Nat)(ps:List Pl)(hT:HTab s p g ps l l)(hj:ps.length=2 ^ j)(hj2:j<=30)(hl:l<=ps.length)
  (hF:∀(i:Nat) (key:K3) (v:Int),ps[i]?=some (.fl key v)->∃(k:Nat) (bo:Bool),k<ps.length * 2/\dY (bQ ps i) key (ps.length * 2) (cj (ps.length * 2) key)=some (k,bo)) :
  SCalls Tryz.prog 146 [.ptr p 0] s fun w t=>∃g',w=.ret (.tup []) /\
   t=(s.set g' (.row 215 5 (ci (cG ps l)))).set p (.obj 161 [.mrw g' (cG ps l).length,.int .i64 l,.int .i64 l])/\(g'=g\/s g'=.free):=by
 have hn2:ps.length<=2 ^ 30:=by rw[hj];exact Nat.pow_le_pow_right (by omega) hj2
 unfold cG
 by_cases hu:4 * l<3 * ps.length
 ·rw[if_pos hu]
  have h:=zj s p g ps l l hT (by omega) (by omega) (by omega)
  refine SCalls.mono (h:=h) fun w t ⟨h1,h2⟩=>⟨g,h1,?_,.inl rfl⟩
  rw[h2]
  funext x
  by_cases hx:x=p
  ·subst hx;rw[q_];exact hT.o
  ·rw[j_ _ _ hx]
   by_cases hy:x=g
   ·subst hy;rw[q_];exact hT.r
   ·rw[j_ _ _ hy]
 ·rw[if_neg hu]
  have h:=zi s p g j ps l l hT hj hj2 (by omega) (by omega) (by omega) (by omega) (by omega) (by omega) hF
  refine SCalls.mono (h:=h) fun w t ⟨g',h1,h2,h3⟩=>⟨g',h1,?_,.inr h2⟩
  rw[h3,dX]
theorem LM {s:St}{b a p:Nat}{c1 c2 c3:Cell}(hb:s b=.free)(hab:¬ b=a)(hpb:¬ b=p):Fg (((s.set b c1).set a c2).set p c3) ((s.set a c2).set p c3):=fun x=>by
 by_cases h1:x=b
 ·subst h1
  left
  rw[j_ _ _ hpb,j_ _ _ hab,hb]
 ·right
  by_cases h2:x=p
  ·subst h2;rw[q_,q_]
  ·rw[j_ _ _ h2,j_ _ _ h2]
   by_cases h3:x=a
   ·subst h3;rw[q_,q_]
   ·rw[j_ _ _ h3,j_ _ _ h3,j_ _ _ h1]
theorem xn {t:St}{a g z:Nat}(h:a=g\/t a=.free)(hz:t z≠.free)(hgz:¬ g=z):¬ a=z/\¬ z=a:=by
 rcases h with h|h
 ·subst h;exact⟨hgz,fun e=>hgz e.symm⟩
 ·exact⟨fun e=>hz (e ▸ h),fun e=>hz (e ▸ h)⟩
theorem Co (s:St)(p g j j1 l k:Nat)(ps:List Pl)(ka kb kc v:Int)(hT:HTab s p g ps l l)(hj:ps.length=2 ^ j)(hj2:j<=30)(hl:l<=ps.length)(hlm:l<1048576)
  (hF:∀(i:Nat) (key:K3) (v:Int),ps[i]?=some (.fl key v)->∃(k:Nat) (bo:Bool),k<ps.length * 2/\dY (bQ ps i) key (ps.length * 2) (cj (ps.length * 2) key)=some (k,bo))
  (hj1:(cG ps l).length=2 ^ j1) (hj3:j1<=40) (hf:dY (cG ps l) (ka,kb,kc) (cG ps l).length (cj (cG ps l).length (ka,kb,kc))=some (k,false)) (hk:(cG ps l)[k]?=some .em) :
  SCalls Tryz.prog 113 [.ptr p 0,jp ka kb kc,.int .i64 v] s fun w t=>∃g',w=.ret (.int .i64 0) /\
   t=(s.set g' (.row 215 5 (ci ((cG ps l).set k (.fl (ka,kb,kc) v))))).set p (.obj 161 [.mrw g' (cG ps l).length,.int .i64 (l+1:Nat),.int .i64 (l+1:Nat)])/\(g'=g\/s g'=.free):=by
 have w0:=fun(t:St) (h1:t p=.obj 161 [.mrw g ps.length,.int .i64 l,.int .i64 l]) (h2:t g=.row 215 5 (ci ps))=>tW t p g ps l l ⟨h1,h2⟩ (by rw[hj];exact Nat.pow_pos (by omega))
 have w1:=fun(t:St) (h1:t p=.obj 161 [.mrw g ps.length,.int .i64 l,.int .i64 l]) (h2:t g=.row 215 5 (ci ps))=>Cp t p g j l ps ⟨h1,h2⟩ hj hj2 hl hF
 have w2:=fun(t:St) (g1:Nat) (h1:t p=.obj 161 [.mrw g1 (cG ps l).length,.int .i64 l,.int .i64 l]) (h2:t g1=.row 215 5 (ci (cG ps l)))=>rP t p g1 j1 k (cG ps l) ka kb kc l l false hj1 hj3 h1 h2 hf
 have hsp:=nR (.fl (ka,kb,kc) v) (x_.1 hk).1
 have hat:=jK hk
 have hat0:(ci (cG ps l))[k * 5]?=some (.int .i64 0):=by
  have h4:(((ci (cG ps l)).drop (k * 5)).take 5)[0]?=some (.int .i64 0):=by rw[hat];rfl
  rw[List.getElem?_take_of_lt (by omega),List.getElem?_drop]at h4
  exact h4
 have hin:=mC (x_.1 hk).1
 have hkn:=(x_.1 hk).1
 obtain⟨h,hg⟩:=hT
 have hpf:s p≠.free:=by rw[h];simp
 have hgf:s g≠.free:=by rw[hg];simp
 have hpg:¬ p=g:=fun e=>by rw[e,hg]at h;cases h
 have hgp:¬ g=p:=fun e=>hpg e.symm
 have hki:(0:Int)<=k:=Int.natCast_nonneg _
 have hli:(0:Int)<=l:=Int.natCast_nonneg _
 have hlm2:¬ (l:Int)>=1048576:=by omega
 simp only[jp,plC]at w1 w2 hsp ⊢
 clear hF hj1 hf hk hj hl
 generalize ci ((cG ps l).set k (.fl (ka,kb,kc) v))=Y at *
 generalize ci (cG ps l)=X at *
 generalize (cG ps l).length=n1 at *
 generalize ps.length=n at *
 generalize ci ps=W at *
 refine am Tryz.func113 rfl Tryz.ntmps113 rfl fun Q hQ hQe=>?_
 (repeat'(first|refine Ctl ?_|(with_reducible first|(refine k_ hK ?_;clear hK hE K E)|(refine k_ hKh ?_;clear hKh Kh)|(refine k_ hKb (aC ?_);clear hKb Kb)|refine ax 11 [([0,1,2,3,4,5,6,7,8],9,[[]])] [] hQe fun K E hK hE=>?_)|((with_reducible refine bZ (fun h=>?_) (fun h=>?_))<;>(try(exfalso;assumption)))|((first|(with_reducible first|refine ab fun K E hK hE=>?_|refine ae vB (w0 _ ac ac) ?_|refine ae rE (w2 _ _ ac ac) ?_|refine d6 ?_|refine ay fun Kh hKh=>?_|refine aG fun Kh hKh=>?_|refine aB fun Kb hKb=>?_)|((with_reducible refine ao Mg (w1 _ ac ac) (fun a h=>?_));(obtain⟨_,_⟩:=xn h (z:=p) (by rw[j_ _ _ (‹_›)];assumption) (‹_›);obtain⟨_,_⟩:=xn h (z:=b) (by rw[q_];simp) (‹_›);have hag:=h))|((with_reducible refine au (fun b hb=>?_));(try(obtain⟨_,_⟩:=nef hb hpf;obtain⟨_,_⟩:=nef hb hgf))))<;>(try simp(disch:=first|assumption|omega) only[go_sem,seval,hat0,hsp, *]))))
 all_goals(refine aq Ap hQ ?_)
 all_goals exact⟨_,_,Wk.refl _,LM hb (‹_›) (‹_›),a,rfl,rfl,hag.imp id fun e=>by rw[j_ _ _ (‹_›)]at e;exact e⟩
theorem pQ {n j:Nat}(hn:n=2 ^ j)(hj:j<=40)(key:K3):cj n key<n:=by
 obtain⟨a,b,c⟩:=key
 subst hn
 exact(pR j hj a b c).2
theorem ui {ps:List Pl}{i:Nat}{q:Pl}(h:ps[i]?=some q):aQ (ps.take (i+1))=aQ (ps.take i)+(if q.isE then 0 else 1):=by
 unfold aQ
 rw[List.take_add_one,h]
 simp only[Option.toList,List.filter_append,p_]
 cases hq:q.isE<;>simp[hq]
theorem qN (ps:List Pl)(i:Nat):aQ (ps.take i)<=i:=Nat.le_trans (mZ _) (by rw[r_];omega)
def dQ (ps:List Pl)(key:K3)(v:Int):Prop:=∃k:Nat,ps[k]?=some (.fl key v)
theorem qB {ps:List Pl}{j i:Nat}{key:K3}{v:Int}(hj:ps.length=2 ^ j)(hj2:j<=30)(h:TabOk (cj ps.length) ps)
  (h1:TabOk (cj (ps.length * 2)) (bQ ps i)) (h3:∀key v,dQ (bQ ps i) key v↔∃a,a<i/\ps[a]?=some (.fl key v)) (hq:ps[i]?=some (.fl key v)) :
  ∃k:Nat,dY (bQ ps i) key (bQ ps i).length (cj (bQ ps i).length key)=some (k,false)/\(bQ ps i)[k]?=some .em/\pm (cj (ps.length * 2)) (bQ ps i) key k:=by
 have hgl:=dX ps i
 have hno:∀(k:Nat) (v':Int),(bQ ps i)[k]?≠some (.fl key v'):=fun k v' e=>by
  obtain⟨a,ha,hb⟩:=(h3 key v').1 ⟨k,e⟩
  have:=h.one hb hq
  omega
 have h4:=h1.absent hno
 rw[hgl]at h4 ⊢
 exact h4
theorem xm {ps:List Pl}{j:Nat}(hj:ps.length=2 ^ j)(hj2:j<=30)(h:TabOk (cj ps.length) ps):∀i,i<=ps.length ->
  TabOk (cj (ps.length * 2)) (bQ ps i)/\aQ (bQ ps i)=aQ (ps.take i)/\∀key v,dQ (bQ ps i) key v↔∃a,a<i/\ps[a]?=some (.fl key v)
 |0,_=>by
  have hlt:∀key,cj (ps.length * 2) key<ps.length * 2:=pQ (j:=j+1) (by rw[hj,Nat.pow_succ]) (by omega)
  rw[oJ]
  refine⟨TabOk.new hlt,by rw[kR];simp[aQ],fun key v=>⟨fun⟨k,hk⟩=>?_,fun⟨a,ha,_⟩=>absurd ha (Nat.not_lt_zero _)⟩⟩
  rw[List.getElem?_replicate]at hk
  split at hk<;>cases hk
 |i+1,hi=>by
  obtain⟨h1,h2,h3⟩:=xm hj hj2 h i (by omega)
  have hlt:i<ps.length:=by omega
  have hq:ps[i]?=some ps[i]:=m_ hlt
  generalize ps[i]=q at hq
  rw[oK hq,ui hq]
  cases q with
  |em=>
   simp only[pE,Pl.isE,if_true,Nat.add_zero]
   refine⟨h1,h2,fun key v=>(h3 key v).trans ⟨fun⟨a,ha,hb⟩=>⟨a,by omega,hb⟩,fun⟨a,ha,hb⟩=>⟨a,?_,hb⟩⟩⟩
   have:a≠i:=fun e=>by subst e;rw[hq]at hb;cases hb
   omega
  |fl key v=>
   obtain⟨k,hf,hk,hp⟩:=qB hj hj2 h h1 h3 hq
   have hgl:=dX ps i
   have hi2:pE (bQ ps i) (.fl key v)=(bQ ps i).set k (.fl key v):=by simp only[pE,hf]
   rw[hi2]
   have hu:=qN ps i
   obtain⟨k',hk1,hk2⟩:=kQ (ps:=bQ ps i) (k:=k) (by rw[h2,hgl];omega)
   refine⟨h1.put hk hp ⟨k',hk1,hk2⟩,by rw[iB hk,h2];rfl,fun key' v'=>?_⟩
   have hkl:=(x_.1 hk).1
   constructor
   ·rintro⟨a,ha⟩
    by_cases e:a=k
    ·subst e
     rw[e_ hkl]at ha
     injection ha with ha
     injection ha with e1 e2
     subst e1 e2
     exact⟨i,by omega,hq⟩
    ·rw[i_ (fun x=>e x.symm)]at ha
     obtain⟨a',h4,h5⟩:=(h3 key' v').1 ⟨a,ha⟩
     exact⟨a',by omega,h5⟩
   ·rintro⟨a,ha,hb⟩
    by_cases e:a=i
    ·subst e
     rw[hq]at hb
     injection hb with hb
     injection hb with e1 e2
     subst e1 e2
     exact⟨k,e_ hkl⟩
    ·obtain⟨k2,h4⟩:=(h3 key' v').2 ⟨a,by omega,hb⟩
     refine⟨k2,?_⟩
     have:k2≠k:=fun e=>by subst e;rw[hk]at h4;cases h4
     rw[i_ (fun x=>this x.symm)]
     exact h4
structure HOk (s:St) (p g:Nat) (ps:List Pl):Prop where
 tab:HTab s p g ps (aQ ps:Nat) (aQ ps:Nat)
 ok:TabOk (cj ps.length) ps
 pw:∃j,4<=j/\j<=22/\ps.length=2 ^ j
theorem HOk.get {s:St}{p g:Nat}{ps:List Pl}(h:HOk s p g ps){ka kb kc v:Int}(hv:dQ ps (ka,kb,kc) v) :
  SRet Tryz.prog 112 [.ptr p 0,jp ka kb kc] s (.tup [.int .i64 v,.int .i64 0]) s:=by
 obtain⟨k,hk⟩:=hv
 obtain⟨j,_,hj2,hj⟩:=h.pw
 exact Cq s p g j k ps ka kb kc _ _ v true h.tab hj (by omega) (h.ok.there hk) (fun _=>hk)
theorem HOk.none {s:St}{p g:Nat}{ps:List Pl}(h:HOk s p g ps){ka kb kc:Int}(hv:∀v,¬ dQ ps (ka,kb,kc) v) :
  SRet Tryz.prog 112 [.ptr p 0,jp ka kb kc] s (.tup [.int .i64 0,.int .i64 3]) s:=by
 obtain⟨j,_,hj2,hj⟩:=h.pw
 obtain⟨k,hf,_,_⟩:=h.ok.absent (key:=(ka,kb,kc)) (fun i v e=>hv v ⟨i,e⟩)
 exact Cq s p g j k ps ka kb kc _ _ 0 false h.tab hj (by omega) hf (fun e=>by cases e)
theorem HOk.put {s:St}{p g:Nat}{ps:List Pl}(h:HOk s p g ps){ka kb kc v:Int}(hv:∀v,¬ dQ ps (ka,kb,kc) v)(hm:aQ ps<1048576) :
  SCalls Tryz.prog 113 [.ptr p 0,jp ka kb kc,.int .i64 v] s fun w t=>∃(g':Nat) (ps':List Pl),w=.ret (.int .i64 0)/\HOk t p g' ps' /\
   (∀key' v',dQ ps' key' v'↔dQ ps key' v'\/(key'=(ka,kb,kc)/\v'=v))/\aQ ps'=aQ ps+1/\(g'=g\/s g'=.free)/\∀z,¬ z=p->¬ z=g'->t z=s z:=by
 obtain⟨j,hj4,hj2,hj⟩:=h.pw
 have hgo:=xm hj (by omega) h.ok
 have hpos:16<=ps.length:=by rw[hj];exact Nat.le_trans (by decide) (Nat.pow_le_pow_right (show 0<2 by omega) hj4)
 have hF:∀(i:Nat) (key:K3) (v:Int),ps[i]?=some (.fl key v)->∃(k:Nat) (bo:Bool),k<ps.length * 2/\dY (bQ ps i) key (ps.length * 2) (cj (ps.length * 2) key)=some (k,bo):=fun i key v hq=>by
  have hi:=(x_.1 hq).1
  obtain⟨h1,_,h3⟩:=hgo i (by omega)
  obtain⟨k,hf,hk,_⟩:=qB hj (by omega) h.ok h1 h3 hq
  have hgl:=dX ps i
  rw[hgl]at hf
  exact⟨k,false,by rw[<- hgl];exact(x_.1 hk).1,hf⟩
 have hG:TabOk (cj (cG ps (aQ ps)).length) (cG ps (aQ ps))/\aQ (cG ps (aQ ps))=aQ ps/\(∀key v,dQ (cG ps (aQ ps)) key v↔dQ ps key v) /\
   (∃j1,4<=j1/\j1<=22/\(cG ps (aQ ps)).length=2 ^ j1)/\aQ ps+1<(cG ps (aQ ps)).length:=by
  unfold cG
  by_cases hu:4 * aQ ps<3 * ps.length
  ·rw[if_pos hu]
   exact⟨h.ok,rfl,fun _ _=>Iff.rfl,⟨j,hj4,hj2,hj⟩,by omega⟩
  ·rw[if_neg hu,dX]
   obtain⟨h1,h2,h3⟩:=hgo ps.length (Nat.le_refl _)
   rw[b_]at h2
   have hle:=mZ ps
   refine⟨h1,h2,fun key v=>(h3 key v).trans ⟨fun⟨a,_,hb⟩=>⟨a,hb⟩,fun⟨a,hb⟩=>⟨a,(x_.1 hb).1,hb⟩⟩,⟨j+1,by omega,?_,by rw[hj,Nat.pow_succ]⟩,by omega⟩
   rcases Nat.lt_or_ge j 22 with hlt|hge
   ·omega
   ·have:j=22:=by omega
    subst this
    omega
 obtain⟨g1,g2,g3,⟨j1,hj5,hj6,hj7⟩,g5⟩:=hG
 obtain⟨k,hf,hk,hp⟩:=g1.absent (key:=(ka,kb,kc)) (fun i v e=>hv v ((g3 _ _).1 ⟨i,e⟩))
 have hput:=Co s p g j j1 (aQ ps) k ps ka kb kc v h.tab hj (by omega) (mZ ps) hm hF hj7 (by omega) hf hk
 refine SCalls.mono (h:=hput) fun w t ⟨g',e1,e2,e3⟩=>⟨g',(cG ps (aQ ps)).set k (.fl (ka,kb,kc) v),e1,?_,?_,?_,e3,?_⟩
 ·have hpg:¬ g'=p:=fun e=>by
   rcases e3 with e3|e3
   ·have h1:=h.tab.o
    rw[<- e,e3,h.tab.r]at h1
    cases h1
   ·rw[e,h.tab.o]at e3
    cases e3
  obtain⟨k',hk1,hk2⟩:=kQ (ps:=cG ps (aQ ps)) (k:=k) (by rw[g2];exact g5)
  refine⟨⟨?_,?_⟩,?_,⟨j1,hj5,hj6,by rw[List.length_set];exact hj7⟩⟩
  ·rw[e2,q_,iB hk,g2,List.length_set]
  ·rw[e2,j_ _ _ hpg,q_]
  ·rw[List.length_set]
   exact g1.put hk hp ⟨k',hk1,hk2⟩
 ·intro key' v'
  have hkl:=(x_.1 hk).1
  rw[<- g3]
  constructor
  ·rintro⟨a,ha⟩
   by_cases e:a=k
   ·subst e
    rw[e_ hkl]at ha
    injection ha with ha
    injection ha with e1 e2
    exact .inr ⟨e1.symm,e2.symm⟩
   ·rw[i_ (fun x=>e x.symm)]at ha
    exact .inl ⟨a,ha⟩
  ·rintro(⟨a,ha⟩|⟨e1,e2⟩)
   ·refine⟨a,?_⟩
    have:a≠k:=fun e=>by subst e;rw[hk]at ha;cases ha
    rw[i_ (fun x=>this x.symm)]
    exact ha
   ·subst e1 e2
    exact⟨k,e_ hkl⟩
 ·rw[iB hk,g2]
 ·intro z hz1 hz2
  rw[e2,j_ _ _ hz1,j_ _ _ hz2]
theorem HOk.new (t:St):SCalls Tryz.prog 55 [] t fun w u=>∃p g,w=.ret (.ptr p 0)/\HOk u p g (List.replicate 16 .em)/\t p=.free/\t g=.free/\¬ p=g/\∀z,¬ z=p->¬ z=g->u z=t z:=by
 refine SCalls.mono (h:=M4 t) fun w u ⟨p,g,e1,e2,e3,e4,e5⟩=>⟨p,g,e1,⟨⟨?_,?_⟩,?_,⟨4,by omega,by omega,by simp⟩⟩,e3,e2,e4,fun z h1 h2=>?_⟩
 ·rw[e5,q_,kR];simp
 ·rw[e5,j_ _ _ (fun e=>e4 e.symm),q_]
 ·rw[List.length_replicate]
  exact TabOk.new (pQ (j:=4) rfl (by omega))
 ·rw[e5,j_ _ _ h1,j_ _ _ h2]
def aW (n:Nat):Tr->Nat
 |.lf _=>n
 |.nd v _ _=>v
noncomputable def lowN (ns:Td):Tr->Nat
 |.lf b=>if b then 1 else 0
 |.nd _ l _=>ixN ns l
noncomputable def highN (ns:Td):Tr->Nat
 |.lf b=>if b then 1 else 0
 |.nd _ _ h=>ixN ns h
noncomputable def nodeC (n:Nat)(ns:Td)(t:Tr):Tb:=[.bool true,.int .i64 (aW n t),.int .i64 (lowN ns t),.int .i64 (highN ns t),.int .i64 0]
noncomputable def nodesC (n:Nat)(ns ts:Td):Tb:=(ts.map (nodeC n ns)).flatten
theorem dU {n:Nat}{ns:Td}:∀(ts:Td),(nodesC n ns ts).length=ts.length * 5
 |[]=>rfl
 |t::ts=>by
  have:=dU (n:=n) (ns:=ns) ts
  simp only[nodesC]at this
  simp only[nodesC,List.map_cons,List.flatten_cons,p_,this,List.length_cons,nodeC]
  simp only[List.length_nil]
  omega
theorem cW {n:Nat}{ns:Td}:∀{ts:Td} {k i:Nat} {t:Tr},ts[k]?=some t->i<5->(nodesC n ns ts)[k * 5+i]?=(nodeC n ns t)[i]?
 |[],k,i,t,h,_=>by simp at h
 |u::ts,0,i,t,h,hi=>by
  simp at h
  subst h
  simp only[nodesC,List.map_cons,List.flatten_cons,Nat.zero_mul,Nat.zero_add]
  rw[g_ (by simpa [nodeC]using hi)]
 |u::ts,k+1,i,t,h,hi=>by
  have ih:=cW (n:=n) (ns:=ns) (ts:=ts) (k:=k) (i:=i) (t:=t) (by simpa using h) hi
  simp only[nodesC]at ih
  have hl:(nodeC n ns u).length=5:=rfl
  simp only[nodesC,List.map_cons,List.flatten_cons]
  rw[h_ (by omega),hl,<- ih]
  congr 1
  omega
structure NMem (s:St) (p g q:Nat) (n B:Nat) (ns:Td) (mk sw:Int):Prop where
 o:s p=.obj 107 [.int .i64 n,.int .i64 B,.mrw g ns.length,.lst [] .full,.ptr q 0,.int .i64 ns.length,.int .i64 mk,.int .i64 sw]
 r:s g=.row 109 5 (nodesC n ns ns)
theorem eV (s:St)(p g q n B:Nat)(ns:Td)(mk sw:Int)(hN:NMem s p g q n B ns mk sw):SRet Tryz.prog 92 [.ptr p 0] s (.bool true) s:=by
 obtain⟨h,hg⟩:=hN
 have hpf:s p≠.free:=by rw[h];simp
 refine am Tryz.func92 rfl Tryz.ntmps92 rfl fun Q hQ hQe=>?_
 (repeat'(first|refine Ctl ?_|((with_reducible refine k_ hK ?_);clear hK hE K E)|(((with_reducible refine ab fun K E hK hE=>?_))<;>(try simp(disch:=assumption) only[go_sem,seval, *]))))
 all_goals(refine aq FM hQ ?_)
 all_goals(refine⟨_,_,Wk.of_eq ?_,?_,rfl,rfl⟩)
 all_goals first|rfl|(exact bK)
theorem kI (s:St)(p g q n B:Nat)(ns:Td)(mk sw:Int)(hN:NMem s p g q n B ns mk sw):SRet Tryz.prog 60 [.ptr p 0] s (.int .i64 n) s:=by
 have w1:=eV s p g q n B ns mk sw hN
 obtain⟨h,hg⟩:=hN
 have hpf:s p≠.free:=by rw[h];simp
 refine am Tryz.func60 rfl Tryz.ntmps60 rfl fun Q hQ hQe=>?_
 (repeat'(first|refine Ctl ?_|((with_reducible refine k_ hK ?_);clear hK hE K E)|((with_reducible refine bZ (fun h=>?_) (fun h=>?_))<;>(try(exfalso;assumption)))|(((with_reducible first|refine ab fun K E hK hE=>?_|refine ae oV (w1) ?_))<;>(try simp(disch:=assumption) only[go_sem,seval, *]))))
 all_goals(refine aq FY hQ ?_)
 all_goals(refine⟨_,_,Wk.of_eq ?_,?_,rfl,rfl⟩)
 all_goals first|rfl|(exact bK)
theorem vT (s:St)(p g q n B:Nat)(ns:Td)(mk sw:Int)(hN:NMem s p g q n B ns mk sw):SRet Tryz.prog 56 [.ptr p 0] s (.int .i64 ns.length) s:=by
 have w1:=eV s p g q n B ns mk sw hN
 obtain⟨h,hg⟩:=hN
 have hpf:s p≠.free:=by rw[h];simp
 refine am Tryz.func56 rfl Tryz.ntmps56 rfl fun Q hQ hQe=>?_
 (repeat'(first|refine Ctl ?_|((with_reducible refine k_ hK ?_);clear hK hE K E)|((with_reducible refine bZ (fun h=>?_) (fun h=>?_))<;>(try(exfalso;assumption)))|(((with_reducible first|refine ab fun K E hK hE=>?_|refine ae oV (w1) ?_))<;>(try simp(disch:=assumption) only[go_sem,seval, *]))))
 all_goals(refine aq F3 hQ ?_)
 all_goals(refine⟨_,_,Wk.of_eq ?_,?_,rfl,rfl⟩)
 all_goals first|rfl|(exact bK)
theorem iQ (s:St)(p g q n B k:Nat)(ns:Td)(mk sw:Int)(hN:NMem s p g q n B ns mk sw)(hk:k<ns.length):SRet Tryz.prog 111 [.ptr p 0,.int .i64 k] s (.int .i64 0) s:=by
 have w1:=eV s p g q n B ns mk sw hN
 obtain⟨h,hg⟩:=hN
 have hpf:s p≠.free:=by rw[h];simp
 have hgf:s g≠.free:=by rw[hg];simp
 have hlen:=dU (n:=n) (ns:=ns) ns
 have h0:(nodesC n ns ns)[k * 5]?=some (.bool true):=cW (i:=0) (m_ hk) (by omega)
 generalize nodesC n ns ns=X at *
 generalize ns.length=m at *
 have hki:(0:Int)<=k:=Int.natCast_nonneg _
 have hk0:¬ (k:Int)<0:=by omega
 have hk1:¬ (k:Int)>=m:=by omega
 refine am Tryz.func111 rfl Tryz.ntmps111 rfl fun Q hQ hQe=>?_
 (repeat'(first|refine Ctl ?_|((with_reducible refine k_ hK ?_);clear hK hE K E)|((with_reducible refine bZ (fun h=>?_) (fun h=>?_))<;>(try(exfalso;assumption)))|(((with_reducible first|refine ab fun K E hK hE=>?_|refine ae oV (w1) ?_|refine d6 ?_))<;>(try simp(disch:=assumption) only[go_sem,seval,h0, *]))))
 all_goals(refine aq Aq hQ ?_)
 all_goals(refine⟨_,_,Wk.of_eq ?_,?_,rfl,rfl⟩)
 all_goals first|rfl|(exact bK)
theorem c8 (s:St)(p g q n B k:Nat)(ns:Td)(t:Tr)(mk sw:Int)(hN:NMem s p g q n B ns mk sw)(hk:ns[k]?=some t) :
  SRet Tryz.prog 98 [.ptr p 0,.int .i64 k] s (.tup [.int .i64 (aW n t),.int .i64 (lowN ns t),.int .i64 (highN ns t),.int .i64 0]) s:=by
 have hkl:=(x_.1 hk).1
 have w1:=iQ s p g q n B k ns mk sw hN hkl
 obtain⟨h,hg⟩:=hN
 have hpf:s p≠.free:=by rw[h];simp
 have hgf:s g≠.free:=by rw[hg];simp
 have hlen:=dU (n:=n) (ns:=ns) ns
 have h1:(nodesC n ns ns)[k * 5+1]?=some (.int .i64 (aW n t)):=cW (i:=1) hk (by omega)
 have h2:(nodesC n ns ns)[k * 5+2]?=some (.int .i64 (lowN ns t)):=cW (i:=2) hk (by omega)
 have h3:(nodesC n ns ns)[k * 5+3]?=some (.int .i64 (highN ns t)):=cW (i:=3) hk (by omega)
 clear hk
 generalize aW n t=V at *
 generalize lowN ns t=L at *
 generalize highN ns t=H at *
 generalize nodesC n ns ns=X at *
 generalize ns.length=m at *
 have hki:(0:Int)<=k:=Int.natCast_nonneg _
 refine am Tryz.func98 rfl Tryz.ntmps98 rfl fun Q hQ hQe=>?_
 (repeat'(first|refine Ctl ?_|(with_reducible first|(refine k_ hK ?_;clear hK hE K E)|(refine k_ hKh ?_;clear hKh Kh)|refine ax 4 [] [0,1,2,3,4,5,6,7,8,9,10,11,12,13,14,15,16,17,18,19,20,21,22,23,24,25,26,27] hQe fun K E hK hE=>?_)|((with_reducible refine bZ (fun h=>?_) (fun h=>?_))<;>(try(exfalso;assumption)))|(((with_reducible first|refine ab fun K E hK hE=>?_|refine ae lw (w1) ?_|refine d6 ?_|refine aG fun Kh hKh=>?_))<;>(try simp(disch:=assumption) only[go_sem,seval,h1,h2,h3, *]))))
 all_goals(refine aq FK hQ ?_)
 all_goals(refine⟨_,_,Wk.of_eq ?_,?_,rfl,rfl⟩)
 all_goals first|rfl|(exact bK)
theorem Cb (s:St)(p g q n B k v:Nat)(ns:Td)(t:Tr)(mk sw:Int)(hN:NMem s p g q n B ns mk sw)(hk:ns[k]?=some t)(hv:v<aW n t)(hvn:v<n) :
  SRet Tryz.prog 79 [.ptr p 0,.int .i64 v,.int .i64 k,.int .i64 k] s (.tup [.int .i64 k,.int .i64 0]) s:=by
 have hkl:=(x_.1 hk).1
 have w0:=eV s p g q n B ns mk sw hN
 have w1:=iQ s p g q n B k ns mk sw hN hkl
 obtain⟨h,hg⟩:=hN
 have hpf:s p≠.free:=by rw[h];simp
 have hgf:s g≠.free:=by rw[hg];simp
 have hlen:=dU (n:=n) (ns:=ns) ns
 have h1:(nodesC n ns ns)[k * 5+1]?=some (.int .i64 (aW n t)):=cW (i:=1) hk (by omega)
 clear hk
 generalize aW n t=V at *
 generalize nodesC n ns ns=X at *
 generalize ns.length=m at *
 have hki:(0:Int)<=k:=Int.natCast_nonneg _
 have hvi:¬ (v:Int)<0:=by omega
 have hvn2:¬ (v:Int)>=n:=by omega
 have hvV:¬ (V:Int)<=v:=by omega
 have hm:be false (.int .i64 (V:Int)) (.int .i64 (V:Int))=some (.int .i64 (V:Int)):=by simp[be]
 refine am Tryz.func79 rfl Tryz.ntmps79 rfl fun Q hQ hQe=>?_
 (repeat'(first|refine Ctl ?_|(with_reducible first|(refine k_ hK ?_;clear hK hE K E)|(refine k_ hKh ?_;clear hKh Kh)|(refine k_ hKb (aC ?_);clear hKb Kb)|refine ax 1 [([0],1,[[]]),([2,3,4,5,6,7,8,9,10,11,12,13,14,15,16,17],18,[[],[]]),([19,20,21,22,23],24,[[],[],[]])] [25,26,27,28,29,30,31,32,33,34,35,36,37,38,39,40,41,42,43,44,45,46,47] hQe fun K E hK hE=>?_)|((with_reducible refine bZ (fun h=>?_) (fun h=>?_))<;>(try(exfalso;assumption)))|(((with_reducible first|refine ab fun K E hK hE=>?_|refine ae oV (w0) ?_|refine ae lw (w1) ?_|refine d6 ?_|refine ay fun Kh hKh=>?_|refine aG fun Kh hKh=>?_|refine aB fun Kb hKb=>?_))<;>(try simp(disch:=assumption) only[go_sem,seval,h1,hm, *]))))
 all_goals(refine aq wO hQ ?_)
 all_goals(refine⟨_,_,Wk.of_eq ?_,?_,rfl,rfl⟩)
 all_goals first|rfl|(exact bK)
theorem zd (s:St)(p g q hg n B kl kh v r:Nat)(ns:Td)(ps:List Pl)(tl th:Tr)(mk sw:Int)(hN:NMem s p g q n B ns mk sw)(hH:HOk s q hg ps)(hkl:ns[kl]?=some tl)(hkh:ns[kh]?=some th)
  (hne:¬ kl=kh) (hv:v<aW n tl) (hv2:v<aW n th) (hvn:v<n) (hh:dQ ps ((v:Int),(kl:Int),(kh:Int)) r) :
  SRet Tryz.prog 79 [.ptr p 0,.int .i64 v,.int .i64 kl,.int .i64 kh] s (.tup [.int .i64 r,.int .i64 0]) s:=by
 have hll:=(x_.1 hkl).1
 have hlh:=(x_.1 hkh).1
 have w0:=eV s p g q n B ns mk sw hN
 have w1:=iQ s p g q n B kl ns mk sw hN hll
 have w2:=iQ s p g q n B kh ns mk sw hN hlh
 have w3:=fun(t:St) (h1:t q=.obj 161 [.mrw hg ps.length,.int .i64 (aQ ps:Nat),.int .i64 (aQ ps:Nat)]) (h2:t hg=.row 215 5 (ci ps))=>HOk.get (s:=t) ⟨⟨h1,h2⟩,hH.ok,hH.pw⟩ hh
 have hq1:=hH.tab.o
 have hq2:=hH.tab.r
 obtain⟨h,hgr⟩:=hN
 have hpf:s p≠.free:=by rw[h];simp
 have hgf:s g≠.free:=by rw[hgr];simp
 have hqf:s q≠.free:=by rw[hq1];simp
 have hhf:s hg≠.free:=by rw[hq2];simp
 have hlen:=dU (n:=n) (ns:=ns) ns
 have h1:(nodesC n ns ns)[kl * 5+1]?=some (.int .i64 (aW n tl)):=cW (i:=1) hkl (by omega)
 have h2:(nodesC n ns ns)[kh * 5+1]?=some (.int .i64 (aW n th)):=cW (i:=1) hkh (by omega)
 simp only[jp]at w3
 clear hkl hkh hh hH
 generalize aW n tl=V at *
 generalize aW n th=W at *
 generalize nodesC n ns ns=X at *
 generalize ci ps=Y at *
 generalize ps.length=m2 at *
 generalize aQ ps=m3 at *
 generalize ns.length=m at *
 have hki:(0:Int)<=kl:=Int.natCast_nonneg _
 have hkh:(0:Int)<=kh:=Int.natCast_nonneg _
 have hvi:¬ (v:Int)<0:=by omega
 have hvn2:¬ (v:Int)>=n:=by omega
 have hne2:¬ (kl:Int)=kh:=by omega
 obtain⟨M,hM,hvM⟩:∃M:Int,be false (.int .i64 (V:Int)) (.int .i64 (W:Int))=some (.int .i64 M)/\¬ M<=v:=by
  refine⟨if (W:Int)<V then W else V,by simp[be],?_⟩
  split<;>omega
 refine am Tryz.func79 rfl Tryz.ntmps79 rfl fun Q hQ hQe=>?_
 (repeat'(first|refine Ctl ?_|(with_reducible first|(refine k_ hK ?_;clear hK hE K E)|(refine k_ hKh ?_;clear hKh Kh)|(refine k_ hKb (aC ?_);clear hKb Kb)|refine ax 1 [([0],1,[[]]),([2,3,4,5,6,7,8,9,10,11,12,13,14,15,16,17],18,[[],[]]),([19,20,21,22,23],24,[[],[],[]])] [25,26,27,28,29,30,31,32,33,34,35,36,37,38,39,40,41,42,43,44,45,46,47] hQe fun K E hK hE=>?_|refine ax 6 [([0,1,2,3,4],5,[[]])] [6,7,8,9,10] hQe fun K E hK hE=>?_)|((with_reducible refine bZ (fun h=>?_) (fun h=>?_))<;>(try(exfalso;assumption)))|((first|(with_reducible first|refine ab fun K E hK hE=>?_|refine ae oV (w0) ?_|refine ae lw (w1) ?_|refine ae lw (w2) ?_|refine ae BO (w3 _ ac ac) ?_|refine d6 ?_|refine ay fun Kh hKh=>?_|refine aG fun Kh hKh=>?_|refine aB fun Kb hKb=>?_)|((with_reducible refine au (fun b hb=>?_));(try(obtain⟨_,_⟩:=nef hb hpf;obtain⟨_,_⟩:=nef hb hgf;obtain⟨_,_⟩:=nef hb hqf;obtain⟨_,_⟩:=nef hb hhf))))<;>(try simp(disch:=assumption) only[go_sem,seval,h1,h2,hM, *]))))
 all_goals(refine aq wO hQ ?_)
 all_goals(refine⟨_,_,Wk.of_eq ?_,?_,rfl,rfl⟩)
 all_goals first|rfl|(exact bK)
open Go.RowKit Go.Deep
theorem EP (s:St)(b off:Nat)(T:TypeId)(xs:Tb)(n d:Int)(hb:s b=.obj T xs)(hx:xs[off]?=some (.int .i64 n)) :
  B1 Tryz.prog 147 [.ptr b off,.int .i64 d] s fun e t=>e=.ret (.int .i64 (IntKind.i64.wrap (n+d)))/\t=s.set b (.obj T (xs.set off (.int .i64 (IntKind.i64.wrap (n+d))))):=by
 intro w0 G w vs hS hvs
 obtain⟨v1,v2,rfl,h1,h2⟩:=lz hvs
 cases h1
 cases h2
 have ho:=hS.ok b
 rw[hb]at ho
 obtain⟨hB,hK,c,hc,hcs,hxs⟩:=ho
 obtain⟨_,v,hv,hr⟩:=hxs off _ hx
 cases hr
 have hcell:w.cell? ⟨b,off,none⟩=some (.int .i64 n):=by simp[World.cell?,hc,hv]
 have hfz:w.frozen? ⟨b,off,none⟩=false:=by simp[World.frozen?,hc]
 have hf:=Tryz.func147
 have hn:(Tryz.f147.name == "runtime.NumGoroutine")=false:=by kernel_rfl
 have hxn:Extern.findNext Tryz.f147=none:=by kernel_rfl
 have hy:Extern.find Tryz.f147=some (Extern.Atomic.update (Op.intArith .add) .i64 true):=by kernel_rfl
 have hbn:Tryz.f147.body.isNone=true:=by kernel_rfl
 have hrun:=run_call_add (P:=Tryz.prog) hf hn hbn hxn .i64 hy hcell hfz (s:=IntKind.i64.wrap (n+d)) (y:=d) (by simp[Op.intArith])
 refine⟨_,_,G,_,_,hrun,Gh.le.refl G,hS.set_obj hb _ (c.setIfInBounds off (.int .i64 (IntKind.i64.wrap (n+d)))) ⟨rfl,rfl,rfl,?_,fun k hk=>?_⟩ (nblk_setCell _ _ _) ?_ (fun k hk=>?_) ?_ (fun i x hi=>?_),.int _ _,rfl,rfl⟩
 ·rw[nblk_setCell];exact Nat.le_refl _
 ·exact blk_setCell_other w _ _ k (by show k≠b;omega)
 ·simp[World.setCell,Array.getElem?_modify,hc]
 ·exact blk_setCell_other w _ _ k hk
 ·simp[hcs]
 ·by_cases e:off=i
  ·subst e
   have hlt:off<xs.length:=(x_.1 hx).1
   rw[e_ hlt]at hi
   injection hi with hi
   subst hi
   exact⟨rfl,_,by rw[Array.getElem?_setIfInBounds_self_of_lt (by omega)],.int _ _⟩
  ·rw[i_ e]at hi
   obtain⟨h1,u,hu,hr⟩:=hxs i x hi
   exact⟨h1,u,by rw[Array.getElem?_setIfInBounds_ne e];exact hu,hr⟩
theorem Ni (s:St)(p off:Nat)(T:TypeId)(xs:Tb)(n d:Int)(hb:s p=.obj T xs)(hx:xs[off]?=some (.int .i64 n)) :
  SRet Tryz.prog 114 [.ptr p off,.int .i64 d] s (.int .i64 (IntKind.i64.wrap (n+d))) (s.set p (.obj T (xs.set off (.int .i64 (IntKind.i64.wrap (n+d)))))):=by
 have w1:=EP s p off T xs n d hb hx
 generalize IntKind.i64.wrap (n+d)=z at *
 generalize xs.set off (.int .i64 z)=ys at *
 refine am Tryz.func114 rfl Tryz.ntmps114 rfl fun Q hQ hQe=>?_
 (repeat'(first|refine Ctl ?_|((with_reducible refine k_ hK ?_);clear hK hE K E)|(((with_reducible first|refine ab fun K E hK hE=>?_|refine o7 (w1) ?_))<;>(try simp(disch:=assumption) only[go_sem,seval,Nat.add_zero, *]))))
 all_goals(refine aq Ao hQ ?_)
 all_goals(refine⟨_,_,Wk.of_eq ?_,?_,rfl,rfl⟩)
 all_goals first|rfl|(exact bK)
theorem uY {n v:Nat}{ns:Td}{l r:Tr}(hN:NsOk n ns)(hl:l∈ns)(hr:r∈ns) :
  nodesC n (ns++[.nd v l r]) (ns++[.nd v l r])=nodesC n ns ns++[.bool true,.int .i64 v,.int .i64 (ixN ns l),.int .i64 (ixN ns r),.int .i64 0]:=by
 have h1:∀t,t∈ns->nodeC n (ns++[.nd v l r]) t=nodeC n ns t:=fun t ht=>by
  cases t with
  |lf b=>rfl
  |nd v' l' r'=>
   obtain⟨h1,h2⟩:=hN.ch _ _ _ ht
   simp only[nodeC,lowN,highN,cx h1,cx h2]
 unfold nodesC
 rw[List.map_append,List.flatten_append,List.map_congr_left h1]
 congr 1
 simp only[List.map_cons,List.map_nil,List.flatten_cons,List.flatten_nil,List.append_nil,nodeC,aW,lowN,highN,cx hl,cx hr]
end Go.Proofs.YtohnaepcgnbaiaaGreatDoor
namespace Go.Proofs.YtohnaepcgnbaiaaGreatDoor
open Go.RowKit
theorem HOk.put' {s:St}{p g:Nat}{ps:List Pl}(h:HOk s p g ps){ka kb kc v:Int}(hv:∀v,¬ dQ ps (ka,kb,kc) v)(hm:aQ ps<1048576) :
  SCalls Tryz.prog 113 [.ptr p 0,jp ka kb kc,.int .i64 v] s fun w t=>∃u:St,w=.ret (.int .i64 0)/\t=u/\∃(g':Nat) (ps':List Pl),HOk u p g' ps' /\
   (∀key' v',dQ ps' key' v'↔dQ ps key' v'\/(key'=(ka,kb,kc)/\v'=v))/\aQ ps'=aQ ps+1/\(g'=g\/s g'=.free)/\∀z,¬ z=p->¬ z=g'->u z=s z:=
 SCalls.mono (h:=h.put hv hm) fun w t ⟨g',ps',e1,e2⟩=>⟨t,e1,rfl,g',ps',e2⟩
abbrev Ps:TypeId:=109
abbrev stT:TypeId:=107
theorem nP {t u:St}{q g g' z:Nat}{c:Cell}(c4:g'=g\/t g'=.free)(c5:∀z,¬ z=q->¬ z=g'->u z=t z)(hc:t z=c)(hn:c≠.free)(h1:¬ z=q)(h2:¬ z=g):u z=c:=by
 rw[c5 z h1 (fun e=>by
  rcases c4 with h|h
  ·exact h2 (e.trans h)
  ·rw[<- e,hc]at h;exact hn h)]
 exact hc
theorem Fu (s:St)(p g q hg n B kl kh v:Nat)(ns:Td)(ps:List Pl)(tl th:Tr)(mk sw:Int)(hN:NMem s p g q n B ns mk sw)(hH:HOk s q hg ps)(hkl:ns[kl]?=some tl)(hkh:ns[kh]?=some th)
  (hne:¬ kl=kh) (hv:v<aW n tl) (hv2:v<aW n th) (hvn:v<n) (hh:∀x,¬ dQ ps ((v:Int),(kl:Int),(kh:Int)) x) (hm1:aQ ps<1048576) (hB:ns.length<B) (hBm:B<=1048576) :
  SCalls Tryz.prog 79 [.ptr p 0,.int .i64 v,.int .i64 kl,.int .i64 kh] s fun w t=>∃u:St,w=.ret (.tup [.int .i64 ns.length,.int .i64 0])/\t=u/\∃(g1 hg1:Nat) (ps1:List Pl),
   u p=.obj 107 [.int .i64 n,.int .i64 B,.mrw g1 (ns.length+1),.lst [] .full,.ptr q 0,.int .i64 (ns.length+1:Nat),.int .i64 (IntKind.i64.wrap (mk+1)),.int .i64 sw] /\
   u g1=.row 109 5 (nodesC n ns ns++[.bool true,.int .i64 v,.int .i64 kl,.int .i64 kh,.int .i64 0])/\HOk u q hg1 ps1 /\
   (∀key' v',dQ ps1 key' v'↔dQ ps key' v'\/(key'=((v:Int),(kl:Int),(kh:Int))/\v'=(ns.length:Int)))/\aQ ps1=aQ ps+1 /\
   (g1=g\/s g1=.free)/\(hg1=hg\/hg1=g\/s hg1=.free) /\
   ∀z,¬ z=p->¬ z=g->¬ z=q->¬ z=hg->s z≠.free->u z=s z:=by
 have hll:=(x_.1 hkl).1
 have hlh:=(x_.1 hkh).1
 have w0:=eV s p g q n B ns mk sw hN
 have w1:=iQ s p g q n B kl ns mk sw hN hll
 have w2:=iQ s p g q n B kh ns mk sw hN hlh
 have w3:=fun(t:St) (h1:t q=.obj 161 [.mrw hg ps.length,.int .i64 (aQ ps:Nat),.int .i64 (aQ ps:Nat)]) (h2:t hg=.row 215 5 (ci ps))=>HOk.none (s:=t) ⟨⟨h1,h2⟩,hH.ok,hH.pw⟩ hh
 have w4:=fun(t:St) (h1:t q=.obj 161 [.mrw hg ps.length,.int .i64 (aQ ps:Nat),.int .i64 (aQ ps:Nat)]) (h2:t hg=.row 215 5 (ci ps))=>HOk.put' (s:=t) (v:=(ns.length:Int)) ⟨⟨h1,h2⟩,hH.ok,hH.pw⟩ hh hm1
 have hq1:=hH.tab.o
 have hq2:=hH.tab.r
 obtain⟨h,hgr⟩:=hN
 have hpf:s p≠.free:=by rw[h];simp
 have hgf:s g≠.free:=by rw[hgr];simp
 have hqf:s q≠.free:=by rw[hq1];simp
 have hhf:s hg≠.free:=by rw[hq2];simp
 have n1:¬ g=p:=fun e=>by rw[e,h]at hgr;cases hgr
 have n2:¬ g=q:=fun e=>by rw[e,hq1]at hgr;cases hgr
 have n3:¬ g=hg:=fun e=>by rw[e,hq2]at hgr;cases hgr
 have n4:¬ hg=p:=fun e=>by rw[e,h]at hq2;cases hq2
 have n5:¬ q=p:=fun e=>by rw[e,h]at hq1;cases hq1
 have n1':¬ p=g:=fun e=>n1 e.symm
 have n2':¬ q=g:=fun e=>n2 e.symm
 have n3':¬ hg=g:=fun e=>n3 e.symm
 have n4':¬ p=hg:=fun e=>n4 e.symm
 have n5':¬ p=q:=fun e=>n5 e.symm
 have hlen:=dU (n:=n) (ns:=ns) ns
 have h1:(nodesC n ns ns)[kl * 5+1]?=some (.int .i64 (aW n tl)):=cW (i:=1) hkl (by omega)
 have h2:(nodesC n ns ns)[kh * 5+1]?=some (.int .i64 (aW n th)):=cW (i:=1) hkh (by omega)
 have hsp:splice (nodesC n ns ns++[.bool false,.int .i64 0,.int .i64 0,.int .i64 0,.int .i64 0]) (ns.length * 5) [.bool true,.int .i64 v,.int .i64 kl,.int .i64 kh,.int .i64 0]=nodesC n ns ns++[.bool true,.int .i64 v,.int .i64 kl,.int .i64 kh,.int .i64 0]:=by
  unfold splice
  rw[<- hlen,List.take_left',List.drop_eq_nil_of_le (by simp)]
  ·simp
  ·rfl
 simp only[jp]at w3 w4
 clear hkl hkh hh hH
 generalize aW n tl=V at *
 generalize aW n th=W at *
 generalize nodesC n ns ns=X at *
 generalize ci ps=Z at *
 generalize ps.length=m2 at *
 generalize aQ ps=m3 at *
 generalize ns.length=m at *
 have hki:(0:Int)<=kl:=Int.natCast_nonneg _
 have hkh:(0:Int)<=kh:=Int.natCast_nonneg _
 have hmi:(0:Int)<=m:=Int.natCast_nonneg _
 have hvi:¬ (v:Int)<0:=by omega
 have hvn2:¬ (v:Int)>=n:=by omega
 have hne2:¬ (kl:Int)=kh:=by omega
 have hmB:¬ (m:Int)>=B:=by omega
 have hxl:=hlen
 have wA:=fun(t:St) (bM:Nat) (h1:t p=.obj 107 [.int .i64 n,.int .i64 B,.mrw bM (m+1),.lst [] .full,.ptr q 0,.int .i64 (m+1:Nat),.int .i64 mk,.int .i64 sw])=>Ni t p 6 107 _ mk 1 h1 rfl
 simp only[List.set_cons_succ,List.set_cons_zero]at wA
 obtain⟨M,hM0,hvM⟩:∃M:Int,be false (.int .i64 (V:Int)) (.int .i64 (W:Int))=some (.int .i64 M)/\¬ M<=v:=by
  refine⟨if (W:Int)<V then W else V,by simp[be],?_⟩
  split<;>omega
 refine am Tryz.func79 rfl Tryz.ntmps79 rfl fun Q hQ hQe=>?_
 (repeat'(first|refine Ctl ?_|(with_reducible first|(refine k_ hK ?_;clear hK hE K E)|(refine k_ hKh ?_;clear hKh Kh)|(refine k_ hKb (aC ?_);clear hKb Kb)|refine ax 1 [([0],1,[[]]),([2,3,4,5,6,7,8,9,10,11,12,13,14,15,16,17],18,[[],[]]),([19,20,21,22,23],24,[[],[],[]])] [25,26,27,28,29,30,31,32,33,34,35,36,37,38,39,40,41,42,43,44,45,46,47] hQe fun K E hK hE=>?_|refine ax 6 [([0,1,2,3,4],5,[[]])] [6,7,8,9,10] hQe fun K E hK hE=>?_|refine ax 9 [] [0,1,2,3,4,5,6,7,8] hQe fun K E hK hE=>?_|refine ax 18 [([0,1,2,3,4,5],6,[[]])] [] hQe fun K E hK hE=>?_)|((with_reducible refine bZ (fun h=>?_) (fun h=>?_))<;>(try(exfalso;assumption)))|((first|(with_reducible first|refine ab fun K E hK hE=>?_|refine ae oV (w0) ?_|refine ae lw (w1) ?_|refine ae lw (w2) ?_|refine ae BO (w3 _ ac ac) ?_|refine ae Mm (wA _ _ ac) ?_|refine d6 ?_|refine dP ?_|refine ay fun Kh hKh=>?_|refine aG fun Kh hKh=>?_|refine aB fun Kb hKb=>?_)|((with_reducible refine ao Mn (w4 _ ac ac) (fun a h=>?_));(obtain⟨g',ps',c1,c2,c3,c4,c5⟩:=h;have k1:=nP (z:=p) (c:=.obj stT [.int .i64 n,.int .i64 B,.mrw bM (m+1),.lst [] .full,.ptr q 0,.int .i64 m,.int .i64 mk,.int .i64 sw]) c4 c5 ac (by simp) (‹_›) (‹_›);simp only[stT]at k1;have k2:=nP (z:=bM) (c:=.row Ps 5 (X++[.bool true,.int .i64 v,.int .i64 kl,.int .i64 kh,.int .i64 0])) c4 c5 ac (by simp) (‹_›) (‹_›);simp only[Ps]at k2))|((with_reducible refine au (fun b hb=>?_));(try(obtain⟨_,_⟩:=nef hb hpf;obtain⟨_,_⟩:=nef hb hgf;obtain⟨_,_⟩:=nef hb hqf;obtain⟨_,_⟩:=nef hb hhf)))|((with_reducible refine cJ (fun bM hM=>?_));(try(obtain⟨_,_⟩:=nef hM (a:=p) (by rw[j_ _ _ (‹_›),j_ _ _ (‹_›)];assumption);obtain⟨_,_⟩:=nef hM (a:=q) (by rw[j_ _ _ (‹_›),j_ _ _ (‹_›)];assumption);obtain⟨_,_⟩:=nef hM (a:=hg) (by rw[j_ _ _ (‹_›),j_ _ _ (‹_›)];assumption);obtain⟨_,_⟩:=nef hM (a:=b) (by rw[j_ _ _ (‹_›),q_];simp)))))<;>(try simp(disch:=first|assumption|omega) only[go_sem,seval,h1,h2,hM0,hsp,hxl,List.flatten_cons,List.flatten_nil,List.append_nil,p_,List.length_cons,List.length_nil, *]))))
 all_goals(refine aq wO hQ ?_)
 have e1:¬ g'=p:=fun e=>by
  rcases c4 with h|h
  ·exact n4 (h.symm.trans e)
  ·rw[e,q_]at h;cases h
 refine⟨_,_,Wk.refl _,Fg.refl _,_,rfl,rfl,bM,g',ps',q_ _ _ _,(j_ _ _ (‹_›)).trans k2,⟨⟨(j_ _ _ n5).trans c1.tab.o,(j_ _ _ e1).trans c1.tab.r⟩,c1.ok,c1.pw⟩,c2,c3,?_,?_,fun z z1 z2 z3 z4 z5=>?_⟩
 ·have h:=hM
  by_cases e:bM=g
  ·exact .inl e
  ·rw[j_ _ _ e]at h
   by_cases e2:bM=b
   ·rw[e2,q_]at h;cases h
   ·rw[j_ _ _ e2]at h
    exact .inr h
 ·rcases c4 with h|h
  ·exact .inl h
  ·rw[j_ _ _ e1]at h
   by_cases e2:g'=bM
   ·rw[e2,q_]at h;cases h
   ·rw[j_ _ _ e2]at h
    by_cases e:g'=g
    ·exact .inr (.inl e)
    ·rw[j_ _ _ e]at h
     by_cases e3:g'=b
     ·rw[e3,q_]at h;cases h
     ·rw[j_ _ _ e3]at h
      exact .inr (.inr h)
 have zb:¬ z=b:=fun e=>z5 (e ▸ hb)
 have zM:¬ z=bM:=fun e=>by
  rw[<- e,j_ _ _ z2,j_ _ _ zb]at hM
  exact z5 hM
 rw[j_ _ _ z1]
 exact nP c4 c5 (by rw[j_ _ _ z1,j_ _ _ zM,j_ _ _ z2,j_ _ _ zb]) z5 z3 z4
structure SB where
 p:Nat
 g:Nat
 q:Nat
 hg:Nat
def SB.has (K:SB)(z:Nat):Prop:=z=K.p\/z=K.g\/z=K.q\/z=K.hg
structure SMem (s:St) (K:SB) (n B:Nat) (ns:Td):Prop where
 mem:∃mk:Int,NMem s K.p K.g K.q n B ns mk 0
 tab:∃ps,HOk s K.q K.hg ps/\aQ ps+2=ns.length/\∀key x,dQ ps key x↔∃v l h,.nd v l h∈ns/\key=keyN ns v l h/\x=((ixN ns (.nd v l h):Nat):Int)
 ok:NsOk n ns
 bd:ns.length<=B/\B<=1048576
structure SKeep (s u:St) (K K':SB):Prop where
 p:K'.p=K.p
 q:K'.q=K.q
 nw:∀z,K'.has z->K.has z\/s z=.free
 out:∀z,s z≠.free->¬ K.has z->u z=s z
theorem SKeep.refl (s:St)(K:SB):SKeep s s K K:=⟨rfl,rfl,fun _ h=>.inl h,fun _ _ _=>rfl⟩
theorem SMem.live {s:St}{K:SB}{n B:Nat}{ns:Td}(h:SMem s K n B ns){z:Nat}(hz:K.has z):s z≠.free:=by
 obtain⟨mk,hm⟩:=h.mem
 obtain⟨ps,ht,_⟩:=h.tab
 rcases hz with e|e|e|e<;>subst e
 ·rw[hm.o];simp
 ·rw[hm.r];simp
 ·rw[ht.tab.o];simp
 ·rw[ht.tab.r];simp
theorem SMem.keep {s u:St}{K:SB}{n B:Nat}{ns:Td}(h:SMem s K n B ns)(hk:∀z,K.has z->u z=s z):SMem u K n B ns:=by
 obtain⟨mk,hm⟩:=h.mem
 obtain⟨ps,ht,ht2⟩:=h.tab
 exact⟨⟨mk,⟨(hk _ (.inl rfl)).trans hm.o,(hk _ (.inr (.inl rfl))).trans hm.r⟩⟩,⟨ps,⟨⟨(hk _ (.inr (.inr (.inl rfl)))).trans ht.tab.o,(hk _ (.inr (.inr (.inr rfl)))).trans ht.tab.r⟩,ht.ok,ht.pw⟩,ht2⟩,h.ok,h.bd⟩
theorem jy {n v:Nat}{t:Tr}(h:OkT n (v+1) t)(hv:v<n):v<aW n t:=by
 cases t with
 |lf b=>exact hv
 |nd w l r=>exact h.1
abbrev MkA:=St×SB×Td
def MkR (s:St)(K:SB)(n B:Nat)(ns:Td)(T:Tr)(a:MkA):Prop:=SMem a.1 a.2.1 n B a.2.2/\ExtN ns a.2.2 T/\SKeep s a.1 K a.2.1
theorem xU {s:St}{K:SB}{n B:Nat}{ns:Td}{v:Nat}{l h:Tr}(hS:SMem s K n B ns)(hl:l∈ns)(hh:h∈ns)(ol:OkT n (v+1) l)(oh:OkT n (v+1) h)(hv:v<n)(hF:FitN ns (mkT v l h) B) :
  SCalls Tryz.prog 79 [.ptr K.p 0,.int .i64 v,.int .i64 (ixN ns l:Nat),.int .i64 (ixN ns h:Nat)] s fun w u=>∃a:MkA,w=.ret (.tup [.int .i64 (ixN a.2.2 (mkT v l h):Nat),.int .i64 0])/\u=a.1/\MkR s K n B ns (mkT v l h) a:=by
 obtain⟨mk,hm⟩:=hS.mem
 obtain⟨ps,ht,hu,hh2⟩:=hS.tab
 have hN:=hS.ok
 have gl:=bS hl
 have gh:=bS hh
 by_cases e:l=h
 ·subst e
  have hT:mkT v l l=l:=if_pos rfl
  rw[hT]
  refine SCalls.mono (h:=Cb s K.p K.g K.q n B (ixN ns l) v ns l mk 0 hm gl (jy ol hv) hv) ?_
  rintro w u ⟨rfl,rfl⟩
  exact⟨(u,K,ns),rfl,rfl,hS,.refl hl,.refl _ _⟩
 ·have hT:mkT v l h=.nd v l h:=if_neg e
  rw[hT]at hF ⊢
  have hne:¬ ixN ns l=ixN ns h:=fun e2=>e (cw hl hh e2)
  by_cases hin:.nd v l h∈ns
  ·refine SCalls.mono (h:=zd s K.p K.g K.q K.hg n B (ixN ns l) (ixN ns h) v (ixN ns (.nd v l h)) ns ps l h mk 0 hm ht gl gh hne (jy ol hv) (jy oh hv) hv ((hh2 _ _).2 ⟨v,l,h,hin,rfl,rfl⟩)) ?_
   rintro w u ⟨rfl,rfl⟩
   exact⟨(u,K,ns),rfl,rfl,hS,.refl hin,.refl _ _⟩
  ·have hno:∀x,¬ dQ ps ((v:Int),(ixN ns l:Int),(ixN ns h:Int)) x:=fun x hx=>by
    obtain⟨v',l',h',h1,h2,_⟩:=(hh2 _ _).1 hx
    obtain⟨c1,c2⟩:=hN.ch _ _ _ h1
    obtain⟨rfl,rfl,rfl⟩:=td hN hl hh c1 c2 h2
    exact hin h1
   have hN':=hN.add hl hh e hv ol oh hin
   have hlen:ns.length<B:=by
    have:=hF (ns++[.nd v l h]) hN'.nd fun t ht=>by
     rcases f_.1 ht with ht|ht
     ·exact .inl ht
     ·rw[a_]at ht;subst ht;exact .inr (by simp[aL])
    rw[p_]at this
    simp at this
    omega
   have hbd:=hS.bd
   refine SCalls.mono (h:=Fu s K.p K.g K.q K.hg n B (ixN ns l) (ixN ns h) v ns ps l h mk 0 hm ht gl gh hne (jy ol hv) (jy oh hv) hv hno (by omega) hlen hbd.2) ?_
   rintro w u ⟨_,rfl,rfl,g1,hg1,ps1,e1,e2,e3,e4,e5,e6,e7,e8⟩
   have hkeep:∀v' l' h',.nd v' l' h'∈ns->keyN (ns++[.nd v l h]) v' l' h'=keyN ns v' l' h'/\ixN (ns++[.nd v l h]) (.nd v' l' h')=ixN ns (.nd v' l' h'):=fun v' l' h' hm'=>by
    obtain⟨a,b⟩:=hN.ch _ _ _ hm'
    unfold keyN
    rw[cx a,cx b,cx hm']
    exact⟨rfl,rfl⟩
   have hkn:keyN (ns++[.nd v l h]) v l h=keyN ns v l h:=by unfold keyN;rw[cx hl,cx hh]
   refine⟨(u,⟨K.p,g1,K.q,hg1⟩,ns++[.nd v l h]),by rw[iK hin],rfl,⟨⟨IntKind.i64.wrap (mk+1),⟨?_,?_⟩⟩,⟨ps1,e3,?_,fun key x=>?_⟩,hN',by rw[p_];simp;omega,hbd.2⟩,⟨⟨_,rfl⟩,fun t ht=>?_,by simp⟩,rfl,rfl,fun z hz=>?_,fun z hz hn=>?_⟩
   ·rw[p_];exact e1
   ·rw[uY hN hl hh];exact e2
   ·rw[p_,e5];simp;omega
   ·rw[e4,hh2]
    constructor
    ·rintro(⟨v',l',h',h1,h2,h3⟩|⟨h1,h2⟩)
     ·obtain⟨k1,k2⟩:=hkeep _ _ _ h1
      exact⟨v',l',h',List.mem_append_left _ h1,by rw[k1];exact h2,by rw[k2];exact h3⟩
     ·exact⟨v,l,h,by simp,by rw[hkn];exact h1,by rw[iK hin];exact h2⟩
    ·rintro⟨v',l',h',h1,h2,h3⟩
     rcases f_.1 h1 with h1|h1
     ·obtain⟨k1,k2⟩:=hkeep _ _ _ h1
      exact .inl ⟨v',l',h',h1,by rw[<- k1];exact h2,by rw[<- k2];exact h3⟩
     ·rw[a_]at h1
      injection h1 with i1 i2 i3
      subst i1 i2 i3
      exact .inr ⟨h2.trans hkn,by dsimp only at h3;rw[iK hin]at h3;exact h3⟩
   ·rcases f_.1 ht with ht|ht
    ·exact .inl ht
    ·rw[a_]at ht;subst ht;exact .inr (by simp[aL])
   ·rcases hz with e|e|e|e<;>dsimp only at e<;>subst e
    ·exact .inl (.inl rfl)
    ·rcases e6 with e|e
     ·exact .inl (.inr (.inl e))
     ·exact .inr e
    ·exact .inl (.inr (.inr (.inl rfl)))
    ·rcases e7 with e|e|e
     ·exact .inl (.inr (.inr (.inr e)))
     ·exact .inl (.inr (.inl e))
     ·exact .inr e
   ·exact e8 z (fun e=>hn (.inl e)) (fun e=>hn (.inr (.inl e))) (fun e=>hn (.inr (.inr (.inl e)))) (fun e=>hn (.inr (.inr (.inr e)))) hz
theorem HOk.new' (t:St):SCalls Tryz.prog 55 [] t fun w u=>∃a:St×Nat,w=.ret (.ptr a.2 0)/\u=a.1/\∃g,HOk a.1 a.2 g (List.replicate 16 .em)/\t a.2=.free/\t g=.free/\¬ a.2=g/\∀z,¬ z=a.2->¬ z=g->a.1 z=t z:=
 SCalls.mono (h:=HOk.new t) fun w u ⟨p,g,e1,e2⟩=>⟨(u,p),e1,rfl,g,e2⟩
theorem mkA {α β:Type}{w:SEnd}{F:α×β->VV}{R:α×β->Prop}{s:α}(b:β)(hw:w=.ret (F (s,b)))(hR:R (s,b)):∃a:α×β,w=.ret (F a)/\s=a.1/\R a:=⟨(s,b),hw,rfl,hR⟩
theorem HOk.lq {s:St}{p g:Nat}{ps:List Pl}(h:HOk s p g ps):s p≠.free:=fun e=>by have:=h.tab.o;rw[e]at this;cases this
theorem HOk.lg {s:St}{p g:Nat}{ps:List Pl}(h:HOk s p g ps):s g≠.free:=fun e=>by have:=h.tab.r;rw[e]at this;cases this
theorem ML (t:St)(n B:Nat)(hn:n<=256)(hB2:2<=B)(hB:B<=1048576) :
  SCalls Tryz.prog 22 [.int .i64 n,.int .i64 B] t fun w u=>∃a:St×SB,w=.ret (.tup [.ptr a.2.p 0,.int .i64 0])/\u=a.1/\SMem a.1 a.2 n B [.lf false,.lf true]/\∀z,t z≠.free->a.1 z=t z/\¬ a.2.has z:=by
 have hi1:¬ (n:Int)<0:=by omega
 have hi2:¬ (n:Int) > 256:=by omega
 have hi3:¬ (B:Int)<2:=by omega
 have hi4:¬ (B:Int) > 1048576:=by omega
 have w1:=fun s=>HOk.new' s
 refine am Tryz.func22 rfl Tryz.ntmps22 rfl fun Q hQ hQe=>?_
 (repeat'(first|refine Ctl ?_|((with_reducible refine k_ hK ?_);clear hK hE K E)|((with_reducible refine bZ (fun h=>?_) (fun h=>?_))<;>(try(exfalso;assumption)))|((first|(with_reducible refine ab fun K E hK hE=>?_)|((with_reducible refine ao Qb (w1 _) (fun a h=>?_));(obtain⟨u,q⟩:=a;dsimp only at h ⊢;obtain⟨hg,c1,c2,c3,c4,c5⟩:=h;have hqf:=c1.lq;have hhf:=c1.lg))|((with_reducible refine au (fun b hb=>?_));(try(obtain⟨_,_⟩:=nef hb hqf;obtain⟨_,_⟩:=nef hb hhf))))<;>(try simp(disch:=assumption) only[go_sem,seval, *]))))
 obtain⟨p,hp⟩:∃p,p=b:=⟨_,rfl⟩
 subst hp
 refine Cj (GS.rawnil (i:=2) (q_ _ _ _) rfl) ?_
 simp only[St.set_set,List.set_cons_succ,List.set_cons_zero]
 refine kJ 3 (cD 2 ?_)
 (repeat'(first|refine Ctl ?_|((with_reducible refine k_ hK ?_);clear hK hE K E)|((with_reducible refine bZ (fun h=>?_) (fun h=>?_))<;>(try(exfalso;assumption)))|((first|(with_reducible refine ab fun K E hK hE=>?_)|((with_reducible refine fG (fun bM hM=>?_));(try(obtain⟨_,_⟩:=nef hM (a:=p) (by(rw[q_];simp;done));obtain⟨_,_⟩:=nef hM (a:=q) (by(repeat rw[j_ _ _ (‹_›)]);assumption);obtain⟨_,_⟩:=nef hM (a:=hg) (by(repeat rw[j_ _ _ (‹_›)]);assumption)))))<;>(try simp(disch:=first|assumption|omega) only[go_sem,seval,List.flatten_cons,List.flatten_nil,List.append_nil,p_,List.length_cons,List.length_nil, *]))))
 refine cD 1 ?_
 (repeat'(first|refine Ctl ?_|((with_reducible refine k_ hK ?_);clear hK hE K E)|((with_reducible refine bZ (fun h=>?_) (fun h=>?_))<;>(try(exfalso;assumption)))|((first|(with_reducible refine ab fun K E hK hE=>?_)|((with_reducible refine cJ (fun bM hM=>?_));(try(obtain⟨_,_⟩:=nef hM (a:=p) (by(rw[j_ _ _ (‹_›),q_];simp;done));obtain⟨_,_⟩:=nef hM (a:=q) (by(repeat rw[j_ _ _ (‹_›)]);assumption);obtain⟨_,_⟩:=nef hM (a:=hg) (by(repeat rw[j_ _ _ (‹_›)]);assumption)))))<;>(try simp(disch:=first|assumption|omega) only[go_sem,seval,List.flatten_cons,List.flatten_nil,List.append_nil,p_,List.length_cons,List.length_nil, *]))))
 refine cD 0 ?_
 (repeat'(first|refine Ctl ?_|((with_reducible refine k_ hK ?_);clear hK hE K E)|((with_reducible refine bZ (fun h=>?_) (fun h=>?_))<;>(try(exfalso;assumption)))|(((with_reducible refine ab fun K E hK hE=>?_))<;>(try simp(disch:=assumption) only[go_sem,seval,List.flatten_cons,List.flatten_nil,List.append_nil,p_,List.length_cons,List.length_nil, *]))))
 (refine aq Gr hQ ?_)
 rename_i g0 hM0 _ _ _ _ _ _ _ _ _ _ _ _ _
 refine⟨_,_,Wk.refl _,Fg.refl _,mkA (⟨p,bM,q,hg⟩:SB) rfl ⟨⟨⟨0,⟨?_,q_ _ _ _⟩⟩,⟨List.replicate 16 .em,?_,by rw[kR];rfl,fun key x=>?_⟩,.new n,by simp;exact⟨hB2,hB⟩⟩,fun z hz=>?_⟩⟩
 ·dsimp only
  rw[j_ _ _ (‹_›),j_ _ _ (‹_›),q_];rfl
 ·refine⟨⟨?_,?_⟩,c1.ok,c1.pw⟩
  ·dsimp only
   rw[j_ _ _ (‹_›),j_ _ _ (‹_›),j_ _ _ (‹_›)]
   exact c1.tab.o
  ·dsimp only
   rw[j_ _ _ (‹_›),j_ _ _ (‹_›),j_ _ _ (‹_›)]
   exact c1.tab.r
 ·constructor
  ·rintro⟨k,hk⟩
   rw[List.getElem?_replicate]at hk
   split at hk
   ·injection hk with hk;cases hk
   ·cases hk
  ·rintro⟨v,l,h,hm,_⟩
   simp at hm
 ·have nq:¬ z=q:=fun e=>by rw[e]at hz;exact hz c2
  have nh:¬ z=hg:=fun e=>by rw[e]at hz;exact hz c3
  have hu:u z≠.free:=by rw[c5 z nq nh];exact hz
  obtain⟨zp,_⟩:=nef hb hu
  obtain⟨z0,_⟩:=nef hM0 (a:=z) (by rw[j_ _ _ zp];exact hu)
  obtain⟨z1,_⟩:=nef hM (a:=z) (by rw[j_ _ _ z0,j_ _ _ zp];exact hu)
  refine⟨?_,fun e=>?_⟩
  ·dsimp only
   rw[j_ _ _ z1,j_ _ _ z0,j_ _ _ zp,c5 z nq nh]
  ·rcases e with e|e|e|e
   ·exact zp e
   ·exact z1 e
   ·exact nq e
   ·exact nh e
open Go.RowKit Go.Deep
theorem xR {G:Gh}{vs:Th}{x:VV}(h:RL G vs [x]):∃a,vs=#[a]/\R G a x:=by
 obtain⟨hs,hr⟩:=h
 obtain⟨l⟩:=vs
 match l,hs,hr with
 |[a],_,hr=>exact⟨a,rfl,hr 0 a x rfl rfl⟩
theorem QS {G:Gh}{vs:Th}{x y z:VV}(h:RL G vs [x,y,z]):∃a b c,vs=#[a,b,c]/\R G a x/\R G b y/\R G c z:=by
 obtain⟨hs,hr⟩:=h
 obtain⟨l⟩:=vs
 match l,hs,hr with
 |[a,b,c],_,hr=>exact⟨a,b,c,rfl,hr 0 a x rfl rfl,hr 1 b y rfl rfl,hr 2 c z rfl rfl⟩
theorem R.tup0 (G:Gh):R G (.tuple #[]) (.tup []):=.tup #[] [] rfl fun j v y h=>by simp at h
theorem Sim.cellI {w0 w:World}{G:Gh}{s:St}(hS:Sim w0 G w s){b off:Nat}{T:TypeId}{xs:Tb}{k:IntKind}{n:Int}(hb:s b=.obj T xs)(hx:xs[off]?=some (.int k n)) :
  w.cell? ⟨b,off,none⟩=some (.int k n)/\w.frozen? ⟨b,off,none⟩=false:=by
 have ho:=hS.ok b
 rw[hb]at ho
 obtain⟨hB,hK,c,hc,hcs,hxs⟩:=ho
 obtain⟨_,v,hv,hr⟩:=hxs off _ hx
 cases hr
 exact⟨by simp[World.cell?,hc,hv],by simp[World.frozen?,hc]⟩
theorem Sim.setI {w0 w:World}{G:Gh}{s:St}(hS:Sim w0 G w s){b off:Nat}{T:TypeId}{xs:Tb}{k:IntKind}{n m:Int}(hb:s b=.obj T xs)(hx:xs[off]?=some (.int k n)) :
  Sim w0 G (w.setCell ⟨b,off,none⟩ (.int k m)) (s.set b (.obj T (xs.set off (.int k m)))):=by
 have ho:=hS.ok b
 rw[hb]at ho
 obtain⟨hB,hK,c,hc,hcs,hxs⟩:=ho
 refine hS.set_obj hb _ (c.setIfInBounds off (.int k m)) ⟨rfl,rfl,rfl,?_,fun k' hk=>?_⟩ (nblk_setCell _ _ _) ?_ (fun k' hk=>?_) ?_ (fun i x hi=>?_)
 ·rw[nblk_setCell];exact Nat.le_refl _
 ·exact blk_setCell_other w _ _ k' (by show k'≠b;omega)
 ·simp[World.setCell,Array.getElem?_modify,hc]
 ·exact blk_setCell_other w _ _ k' hk
 ·simp[hcs]
 ·by_cases e:off=i
  ·subst e
   have hlt:off<xs.length:=(x_.1 hx).1
   rw[e_ hlt]at hi
   injection hi with hi
   subst hi
   exact⟨rfl,_,by rw[Array.getElem?_setIfInBounds_self_of_lt (by omega)],.int _ _⟩
  ·rw[i_ e]at hi
   obtain⟨h1,u,hu,hr⟩:=hxs i x hi
   exact⟨h1,u,by rw[Array.getElem?_setIfInBounds_ne e];exact hu,hr⟩
section
variable (s : St)
variable (b off : Nat) (T : TypeId) (xs : Tb) (hb : s b = .obj T xs)
include hb
theorem Bl (n:Int)(hx:xs[off]?=some (.int .u32 n)) :
  B1 Tryz.prog 199 [.ptr b off] s fun e t=>e=.ret (.int .u32 n)/\t=s:=by
 intro w0 G w vs hS hvs
 obtain⟨v,rfl,hv⟩:=xR hvs
 cases hv
 obtain⟨hc,hz⟩:=hS.cellI hb hx
 exact⟨_,_,G,_,_,run_call_load (P:=Tryz.prog) Tryz.func199 (by kernel_rfl) (by kernel_rfl) (by kernel_rfl) .u32 (by kernel_rfl) hc,Gh.le.refl G,hS,.int _ _,rfl,rfl⟩
theorem Bk (n:Int)(hx:xs[off]?=some (.int .i64 n)) :
  B1 Tryz.prog 163 [.ptr b off] s fun e t=>e=.ret (.int .i64 n)/\t=s:=by
 intro w0 G w vs hS hvs
 obtain⟨v,rfl,hv⟩:=xR hvs
 cases hv
 obtain⟨hc,hz⟩:=hS.cellI hb hx
 exact⟨_,_,G,_,_,run_call_load (P:=Tryz.prog) Tryz.func163 (by kernel_rfl) (by kernel_rfl) (by kernel_rfl) .i64 (by kernel_rfl) hc,Gh.le.refl G,hS,.int _ _,rfl,rfl⟩
theorem xZ (n:Int)(hx:xs[off]?=some (.int .u32 n)) :
  SRet Tryz.prog 189 [.ptr b off] s (.bool (!(decide (n=0)))) s:=by
 have w1:=Bl s b off T xs hb n hx
 refine am Tryz.func189 rfl Tryz.ntmps189 rfl fun Q hQ hQe=>?_
 (repeat'(first|refine Ctl ?_|((with_reducible refine k_ hK ?_);clear hK hE K E)|(((with_reducible first|refine ab fun K E hK hE=>?_|refine o7 (w1) ?_))<;>(try simp(disch:=assumption) only[go_sem,seval,Nat.add_zero, *]))))
 all_goals(refine aq Ac hQ ?_)
 all_goals(refine⟨_,_,Wk.of_eq ?_,?_,rfl,rfl⟩)
 all_goals first|rfl|(exact bK)
theorem FC (n:Int)(hx:xs[off]?=some (.int .i64 n)) :
  SRet Tryz.prog 121 [.ptr b off] s (.int .i64 n) s:=by
 have w1:=Bk s b off T xs hb n hx
 refine am Tryz.func121 rfl Tryz.ntmps121 rfl fun Q hQ hQe=>?_
 (repeat'(first|refine Ctl ?_|((with_reducible refine k_ hK ?_);clear hK hE K E)|(((with_reducible first|refine ab fun K E hK hE=>?_|refine o7 (w1) ?_))<;>(try simp(disch:=assumption) only[go_sem,seval,Nat.add_zero, *]))))
 all_goals(refine aq Am hQ ?_)
 all_goals(refine⟨_,_,Wk.of_eq ?_,?_,rfl,rfl⟩)
 all_goals first|rfl|(exact bK)
end
end Go.Proofs.YtohnaepcgnbaiaaGreatDoor
namespace Go.Proofs.YtohnaepcgnbaiaaGreatDoor
open Go.RowKit Go.Deep
structure CE where
 is:Bool
 a:Int
 b:Int
 c:Int
 k:Int
def ceC (e:CE):Tb:=[.bool e.is,.int .i64 e.a,.int .i64 e.b,.int .i64 e.c,.int .i64 e.k]
def cP (l:List CE):Tb:=(l.map ceC).flatten
def CE0:CE:=⟨false,0,0,0,0⟩
theorem Bz (n:Nat):(List.replicate n [VV.bool false,.int .i64 0,.int .i64 0,.int .i64 0,.int .i64 0]).flatten=cP (List.replicate n CE0):=by
 simp[cP,List.map_replicate,ceC,CE0]
abbrev mn:TypeId:=123
abbrev vw:TypeId:=209
def c9 (p:Nat)(d m:Int)(c:VV):Tb:=[.ptr p 0,.int .u32 d,.int .i32 m,.int .u32 0,c,.int .i64 0]
theorem zc (t:St)(bx o p:Nat)(m:Int)(hbx:t bx=.obj 57 [.ptr o 0])(ho:t o=.obj 123 (c9 p 0 m (.lst [] .full))) :
  SCalls Tryz.prog 174 [.ptr bx 0] t fun w u=>∃c,w=.ret (.tup [])/\t c=.free/\u=(t.set c (.row 209 5 (cP (List.replicate 4096 CE0)))).set o (.obj 123 (c9 p 0 m (.mrw c 4096))):=by
 have hz:=Bz 4096
 unfold c9 at *
 have hof:t o≠.free:=by rw[ho];simp
 have hxf:t bx≠.free:=by rw[hbx];simp
 generalize cP (List.replicate 4096 CE0)=Z at *
 refine am Tryz.func174 rfl Tryz.ntmps174 rfl fun Q hQ hQe=>?_
 (repeat'(first|(with_reducible first|(refine k_ hK ?_;clear hK hE K E)|(refine k_ hKh ?_;clear hKh Kh)|(refine k_ hKb (aC ?_);clear hKb Kb)|refine ax 0 [([0],1,[[0]]),([2,3],4,[[],[]])] [] hQe fun K E hK hE=>?_)|((first|(with_reducible first|refine ay fun Kh hKh=>?_|refine aG fun Kh hKh=>?_|refine aB fun Kb hKb=>?_)|((with_reducible refine au (fun b hb=>?_));(try(obtain⟨_,_⟩:=nef hb hof;obtain⟨_,_⟩:=nef hb hxf))))<;>(try simp(disch:=assumption) only[go_sem,seval,hz,-List.reduceReplicate, *]))))
 all_goals(refine d5 Af hQ ?_)
 exact⟨_,_,Wk.refl _,Fg.refl _,b,rfl,hb,rfl⟩
theorem zT {G:Gh}{e:Ending}(h:RE G e (.ret (.tup []))):e=.returned (.tuple #[]):=by
 cases e with
 |returned v=>
  cases (show R G v (.tup []) from h)with
  |tup vs xs hs hR=>
   obtain rfl:vs=#[]:=Array.eq_empty_of_size_eq_zero (by simpa using hs)
   rfl
 |panicked _=>exact h.elim
 |outgrown=>exact h.elim
theorem Fr (t:St)(bx o p:Nat)(hbx:t bx=.obj 57 [.ptr o 0])(ho:t o=.obj 123 (c9 p 0 0 (.lst [] .full))) :
  SCalls Tryz.prog 190 [.ptr o 1,.fn 174 [.ptr bx 0]] t fun w u=>∃c,w=.ret (.tup [])/\t c=.free/\u=(t.set c (.row 209 5 (cP (List.replicate 4096 CE0)))).set o (.obj 123 (c9 p 1 0 (.mrw c 4096))):=by
 intro w0 G w vs hS hA
 obtain⟨v1,v2,rfl,h1,h2⟩:=lz hA
 cases h1
 cases h2 with
 |fn f us xs hs hR=>
 have hxo:¬ bx=o:=fun e=>by rw[e,ho]at hbx;injection hbx with h1 h2;simp[c9]at h2
 obtain⟨c0,z0⟩:=hS.cellI (off:=1) ho rfl
 obtain⟨c1,z1⟩:=hS.cellI (off:=2) ho rfl
 have hS1:=hS.setI (off:=2) (m:=1) ho rfl
 have h1:=zc (t.set o (.obj 123 (c9 p 0 1 (.lst [] .full)))) bx o p 1 (by rw[j_ _ _ hxo];exact hbx) (q_ _ _ _) w0 G _ us hS1 ⟨hs,hR⟩
 refine(Lt o 1 us w c0 c1 z1 (fun w1=>∃G' c,G.le G'/\t c=.free/\Sim w0 G' w1 ((t.set c (.row 209 5 (cP (List.replicate 4096 CE0)))).set o (.obj 123 (c9 p 0 1 (.mrw c 4096))))) (h1.mono ?_)).mono ?_
 ·rintro e w' ⟨G',s',x,hG,hS',hE,c,rfl,hc,rfl⟩
  have e1:=zT hE
  have hco:¬ c=o:=fun e=>by rw[e,q_]at hc;cases hc
  have hc':t c=.free:=by rw[j_ _ _ hco]at hc;exact hc
  obtain⟨d0,y0⟩:=hS'.cellI (off:=1) (q_ _ _ _) rfl
  obtain⟨d1,y1⟩:=hS'.cellI (off:=2) (q_ _ _ _) rfl
  refine⟨e1,⟨G',c,hG,hc',?_⟩,d0,y0,d1,y1⟩
  have:((t.set o (.obj 123 (c9 p 0 1 (.lst [] .full)))).set c (.row 209 5 (cP (List.replicate 4096 CE0)))).set o (.obj 123 (c9 p 0 1 (.mrw c 4096)))=(t.set c (.row 209 5 (cP (List.replicate 4096 CE0)))).set o (.obj 123 (c9 p 0 1 (.mrw c 4096))):=by
   funext z
   by_cases h1:z=o<;>by_cases h2:z=c<;>simp[St.set,h1,h2]
  rw[<- this]
  exact hS'
 ·rintro e w' ⟨rfl,w1,⟨G',c,hG,hc,hS'⟩,rfl⟩
  have a1:=(hS'.drew).setI (off:=1) (m:=1) (q_ _ _ _) rfl
  rw[St.set_set]at a1
  have a2:=a1.setI (off:=2) (m:=0) (q_ _ _ _) rfl
  rw[St.set_set]at a2
  exact⟨G',_,.ret (.tup []),hG,a2,R.tup0 G',c,rfl,hc,rfl⟩
theorem MJ (t:St)(bx o p:Nat)(hbx:t bx=.obj 57 [.ptr o 0])(ho:t o=.obj 123 (c9 p 0 0 (.lst [] .full))) :
  SCalls Tryz.prog 173 [.ptr o 1,.fn 174 [.ptr bx 0]] t fun w u=>∃c,w=.ret (.tup [])/\u=(t.set c (.row 209 5 (cP (List.replicate 4096 CE0)))).set o (.obj 123 (c9 p 1 0 (.mrw c 4096)))/\t c=.free:=by
 have w1:=xZ t o 1 _ _ ho 0 rfl
 have w2:SCalls Tryz.prog 190 [.ptr o 1,.fn 174 [.ptr bx 0]] t fun w u=>∃c,w=.ret (.tup [])/\u=(t.set c (.row 209 5 (cP (List.replicate 4096 CE0)))).set o (.obj 123 (c9 p 1 0 (.mrw c 4096)))/\t c=.free:=
  SCalls.mono (h:=Fr t bx o p hbx ho) fun w u ⟨c,a,b,d⟩=>⟨c,a,d,b⟩
 have hof:t o≠.free:=by rw[ho];simp
 generalize cP (List.replicate 4096 CE0)=Z at *
 unfold c9 at *
 refine am Tryz.func173 rfl Tryz.ntmps173 rfl fun Q hQ hQe=>?_
 (repeat'(first|refine Ctl ?_|((with_reducible refine k_ hK ?_);clear hK hE K E)|((with_reducible refine bZ (fun h=>?_) (fun h=>?_))<;>(try(exfalso;assumption)))|((first|(with_reducible first|refine ab fun K E hK hE=>?_|refine ae BJ (w1) ?_)|((with_reducible refine ao Ma (w2) (fun a h=>?_))))<;>(try simp(disch:=assumption) only[go_sem,seval,Nat.add_zero, *]))))
 all_goals(refine d5 uv hQ ?_)
 exact⟨_,_,Wk.refl _,Fg.refl _,_,rfl,rfl,h⟩
theorem MI (t:St)(o p:Nat)(c f:VV)(ho:t o=.obj 123 (c9 p 1 0 c)) :
  SRet Tryz.prog 173 [.ptr o 1,f] t (.tup []) t:=by
 have w1:=xZ t o 1 _ _ ho 1 rfl
 have hof:t o≠.free:=by rw[ho];simp
 unfold c9 at *
 refine am Tryz.func173 rfl Tryz.ntmps173 rfl fun Q hQ hQe=>?_
 (repeat'(first|refine Ctl ?_|((with_reducible refine k_ hK ?_);clear hK hE K E)|((with_reducible refine bZ (fun h=>?_) (fun h=>?_))<;>(try(exfalso;assumption)))|(((with_reducible first|refine ab fun K E hK hE=>?_|refine ae BJ (w1) ?_))<;>(try simp(disch:=assumption) only[go_sem,seval,Nat.add_zero, *]))))
 all_goals(refine d5 uv hQ ?_)
 all_goals(refine⟨_,_,Wk.of_eq ?_,?_,rfl,rfl⟩)
 all_goals first|rfl|(exact bK)
theorem lA (s:St)(p g q n B:Nat)(ns:Td)(mk sw:Int)(hN:NMem s p g q n B ns mk sw):SRet Tryz.prog 99 [.ptr p 0] s (.int .i64 sw) s:=by
 have w1:=eV s p g q n B ns mk sw hN
 have w2:=FC s p 7 _ _ hN.o sw rfl
 obtain⟨h,hg⟩:=hN
 have hpf:s p≠.free:=by rw[h];simp
 refine am Tryz.func99 rfl Tryz.ntmps99 rfl fun Q hQ hQe=>?_
 (repeat'(first|refine Ctl ?_|((with_reducible refine k_ hK ?_);clear hK hE K E)|((with_reducible refine bZ (fun h=>?_) (fun h=>?_))<;>(try(exfalso;assumption)))|(((with_reducible first|refine ab fun K E hK hE=>?_|refine ae oV (w1) ?_|refine ae Ml (w2) ?_))<;>(try simp(disch:=assumption) only[go_sem,seval, *]))))
 all_goals(refine aq FJ hQ ?_)
 all_goals(refine⟨_,_,Wk.of_eq ?_,?_,rfl,rfl⟩)
 all_goals first|rfl|(exact bK)
end Go.Proofs.YtohnaepcgnbaiaaGreatDoor
namespace Go.Proofs.YtohnaepcgnbaiaaGreatDoor
open Go.RowKit
structure OB where
 s:SB
 o:Nat
 c:Nat
def OB.has (K:OB)(z:Nat):Prop:=K.s.has z\/z=K.o\/z=K.c
def CacheOk (n:Nat)(ns:Td)(xs:List CE):Prop:=xs.length=4096/\∀e,e∈xs->e.is=true ->
 ∃ta tb tc,ta∈ns/\tb∈ns/\tc∈ns/\e.a=((ixN ns ta:Nat):Int)/\e.b=((ixN ns tb:Nat):Int)/\e.c=((ixN ns tc:Nat):Int)/\iteT n ta tb tc∈ns/\e.k=((ixN ns (iteT n ta tb tc):Nat):Int)
structure OMem1 (s:St) (K:OB) (n B:Nat) (ns:Td):Prop where
 st:SMem s K.s n B ns
 ob:s K.o=.obj mn (c9 K.s.p 1 0 (.mrw K.c 4096))
 ca:∃xs,s K.c=.row vw 5 (cP xs)/\CacheOk n ns xs
structure OMem0 (s:St) (K:OB) (n B:Nat) (ns:Td):Prop where
 st:SMem s K.s n B ns
 ob:s K.o=.obj mn (c9 K.s.p 0 0 (.lst [] .full))
 c:K.c=K.o
def OMem (s:St)(K:OB)(n B:Nat)(ns:Td):Prop:=OMem0 s K n B ns\/OMem1 s K n B ns
theorem OMem.st {s:St}{K:OB}{n B:Nat}{ns:Td}(h:OMem s K n B ns):SMem s K.s n B ns:=by
 rcases h with h|h<;>exact h.st
theorem OMem.op {s:St}{K:OB}{n B:Nat}{ns:Td}(h:OMem s K n B ns):∃d c,s K.o=.obj mn (c9 K.s.p d 0 c):=by
 rcases h with h|h<;>exact⟨_,_,h.ob⟩
theorem OMem.live {s:St}{K:OB}{n B:Nat}{ns:Td}(h:OMem s K n B ns){z:Nat}(hz:K.has z):s z≠.free:=by
 rcases hz with hz|hz|hz
 ·exact h.st.live hz
 ·subst hz
  obtain⟨d,c,e⟩:=h.op
  rw[e];simp
 ·rcases h with h|h
  ·rw[hz,h.c,h.ob];simp
  ·obtain⟨xs,e,_⟩:=h.ca
   rw[hz,e];simp
structure OKeep (s u:St) (K K':OB):Prop where
 p:K'.s.p=K.s.p
 q:K'.s.q=K.s.q
 o:K'.o=K.o
 nw:∀z,K'.has z->K.has z\/s z=.free
 out:∀z,s z≠.free->¬ K.has z->u z=s z
theorem OKeep.refl (s:St)(K:OB):OKeep s s K K:=⟨rfl,rfl,rfl,fun _ h=>.inl h,fun _ _ _=>rfl⟩
theorem OKeep.trans {a b c:St}{K K' K'':OB}(h:OKeep a b K K')(k:OKeep b c K' K''):OKeep a c K K'':=by
 refine⟨k.p.trans h.p,k.q.trans h.q,k.o.trans h.o,fun z hz=>?_,fun z hz hn=>?_⟩
 ·rcases k.nw z hz with e|e
  ·exact h.nw z e
  ·by_cases h1:K.has z
   ·exact .inl h1
   ·by_cases h2:a z=.free
    ·exact .inr h2
    ·have:=h.out z h2 h1
     rw[e]at this
     exact absurd this.symm h2
 ·have h1:=h.out z hz hn
  rw[<- h1]
  refine k.out z (by rw[h1];exact hz) fun h2=>?_
  rcases h.nw z h2 with e|e
  ·exact hn e
  ·exact hz e
theorem OMem.keep {s u:St}{K:OB}{n B:Nat}{ns:Td}(h:OMem s K n B ns)(hk:∀z,K.has z->u z=s z):OMem u K n B ns:=by
 rcases h with h|h
 ·exact .inl ⟨h.st.keep fun z hz=>hk z (.inl hz),(hk _ (.inr (.inl rfl))).trans h.ob,h.c⟩
 ·obtain⟨xs,e,hx⟩:=h.ca
  exact .inr ⟨h.st.keep fun z hz=>hk z (.inl hz),(hk _ (.inr (.inl rfl))).trans h.ob,⟨xs,(hk _ (.inr (.inr rfl))).trans e,hx⟩⟩
theorem PC {α β:Type}{w:SEnd}{y:VV}{R:α×β->Prop}{s:α}(b:β)(hw:w=.ret y)(hR:R (s,b)):∃a:α×β,w=.ret y/\s=a.1/\R a:=⟨(s,b),hw,rfl,hR⟩
abbrev FrA:=St×OB
theorem B9 (s:St)(K:OB)(n B:Nat)(ns:Td)(hO:OMem s K n B ns) :
  SCalls Tryz.prog 141 [.ptr K.o 0] s fun w u=>∃a:FrA,w=.ret (.tup [])/\u=a.1/\OMem1 a.1 a.2 n B ns/\OKeep s a.1 K a.2/\a.2.s=K.s:=by
 obtain⟨⟨p,g,q,hg⟩,o,c⟩:=K
 rcases hO with ⟨h1,h2,h3⟩|⟨h1,h2,h3⟩
 ·dsimp only at h1 h2 h3
  subst h3
  have hlv:∀z,(SB.mk p g q hg).has z->s z≠.free:=fun z hz=>h1.live hz
  have HS:=o_ h1
  obtain⟨mk,hm⟩:=h1.mem
  have w2:=fun(t:St) (a:t p=s p) (b:t g=s g)=>lA t p g q n B ns mk 0 ⟨a.trans hm.o,b.trans hm.r⟩
  obtain⟨hmo,hmr⟩:=hm
  dsimp only at hmo hmr w2
  rw[hmo,hmr]at w2
  have hpf:s p≠.free:=by rw[hmo];simp
  have hgf:s g≠.free:=by rw[hmr];simp
  have hof:s c≠.free:=by rw[h2];simp
  have npo:¬ p=c:=fun e=>by rw[e,h2]at hmo;cases hmo
  have ngo:¬ g=c:=fun e=>by rw[e,h2]at hmr;cases hmr
  have w1:=fun(t:St) (bx:Nat) (a:t bx=.obj 57 [.ptr c 0]) (b:t c=.obj 123 (c9 p 0 0 (.lst [] .full)))=>MJ t bx c p a b
  clear h1
  have hZ:∃Z,Z=cP (List.replicate 4096 CE0):=⟨_,rfl⟩
  obtain⟨Z,hZ⟩:=hZ
  rw[<- hZ]at w1
  have HZ:=o_ hZ
  clear hZ
  unfold c9 mn at *
  refine am Tryz.func141 rfl Tryz.ntmps141 rfl fun Q hQ hQe=>?_
  (repeat'(first|refine Ctl ?_|((with_reducible refine k_ hK ?_);clear hK hE K E)|((with_reducible refine bZ (fun h=>?_) (fun h=>?_))<;>(try(exfalso;assumption)))|((first|(with_reducible first|refine ab fun K E hK hE=>?_|refine ae xE (w2 _ ac ac) ?_)|((with_reducible refine ao BK (w1 _ _ ac ac) (fun a h=>?_));(have hAF:=h;obtain⟨_,nab⟩:=nef h (a:=b) (by rw[q_];simp);obtain⟨_,_⟩:=nef h (a:=p) (by rw[j_ _ _ (‹_›)];exact hpf);obtain⟨_,_⟩:=nef h (a:=g) (by rw[j_ _ _ (‹_›)];exact hgf);obtain⟨_,_⟩:=nef h (a:=c) (by rw[j_ _ _ (‹_›)];exact hof)))|((with_reducible refine au (fun b hb=>?_));(try(obtain⟨_,_⟩:=nef hb hpf;obtain⟨_,_⟩:=nef hb hgf;obtain⟨_,_⟩:=nef hb hof))))<;>(try simp(disch:=assumption) only[go_sem,seval, *]))))
  (refine d5 uA hQ ?_)
  have hfa:s a=.free:=by rw[j_ _ _ nab]at hAF;exact hAF
  have hkp:∀z,s z≠.free->¬ z=c->(((s.set b (.obj 57 [.ptr c 0])).set a (.row 209 5 Z)).set c (.obj 123 [.ptr p 0,.int .u32 1,.int .i32 0,.int .u32 0,.mrw a 4096,.int .i64 0])) z=s z:=fun z hz hc=>by
   obtain⟨z1,_⟩:=nef hb hz
   obtain⟨z2,_⟩:=nef hfa hz
   rw[j_ _ _ hc,j_ _ _ z2,j_ _ _ z1]
  have hS:=HS.out
  have hcK:∀z,(SB.mk p g q hg).has z->¬ z=c:=fun z hz e=>by
   rcases hz with e2|e2|e2|e2<;>dsimp only at e2<;>rw[e]at e2
   ·exact npo e2.symm
   ·exact ngo e2.symm
   ·obtain⟨ps,ht,_⟩:=hS.tab
    have:=ht.tab.o
    rw[<- e2,h2]at this
    cases this
   ·obtain⟨ps,ht,_⟩:=hS.tab
    have:=ht.tab.r
    rw[<- e2,h2]at this
    cases this
  refine⟨_,_,Wk.refl _,Fg.refl _,PC (⟨⟨p,g,q,hg⟩,c,a⟩:OB) rfl ⟨⟨hS.keep fun z hz=>hkp z (hlv z hz) (hcK z hz),q_ _ _ _,⟨_,(j_ _ _ (‹_›)).trans ((q_ _ _ _).trans (by rw[HZ.out])),by rw[List.length_replicate],fun e he hi=>?_⟩⟩,⟨rfl,rfl,rfl,fun z hz=>?_,fun z hz hn=>hkp z hz fun e=>hn (.inr (.inl e))⟩,rfl⟩⟩
  ·rw[List.eq_of_mem_replicate he]at hi
   cases hi
  ·rcases hz with hz|hz|hz
   ·exact .inl (.inl hz)
   ·exact .inl (.inr (.inl hz))
   ·dsimp only at hz
    rw[hz]
    exact .inr hfa
 ·dsimp only at h1 h2 h3
  have hlv:∀z,(SB.mk p g q hg).has z->s z≠.free:=fun z hz=>h1.live hz
  have HS:=o_ h1
  obtain⟨mk,hm⟩:=h1.mem
  have w2:=fun(t:St) (a:t p=s p) (b:t g=s g)=>lA t p g q n B ns mk 0 ⟨a.trans hm.o,b.trans hm.r⟩
  obtain⟨hmo,hmr⟩:=hm
  dsimp only at hmo hmr w2
  rw[hmo,hmr]at w2
  have hpf:s p≠.free:=by rw[hmo];simp
  have hgf:s g≠.free:=by rw[hmr];simp
  have hof:s o≠.free:=by rw[h2];simp
  have npo:¬ p=o:=fun e=>by rw[e,h2]at hmo;cases hmo
  have ngo:¬ g=o:=fun e=>by rw[e,h2]at hmr;cases hmr
  have w1:=fun(t:St) (b:t o=.obj 123 (c9 p 1 0 (.mrw c 4096)))=>fun f=>MI t o p _ f b
  have H2:=o_ h2
  have H3:=o_ h3
  clear h1 h3
  unfold c9 mn at *
  refine am Tryz.func141 rfl Tryz.ntmps141 rfl fun Q hQ hQe=>?_
  (repeat'(first|refine Ctl ?_|((with_reducible refine k_ hK ?_);clear hK hE K E)|((with_reducible refine bZ (fun h=>?_) (fun h=>?_))<;>(try(exfalso;assumption)))|((first|(with_reducible first|refine ab fun K E hK hE=>?_|refine ae BK (w1 _ ac _) ?_|refine ae xE (w2 _ ac ac) ?_)|((with_reducible refine au (fun b hb=>?_));(try(obtain⟨_,_⟩:=nef hb hpf;obtain⟨_,_⟩:=nef hb hgf;obtain⟨_,_⟩:=nef hb hof))))<;>(try simp(disch:=assumption) only[go_sem,seval, *]))))
  (refine d5 uA hQ ?_)
  exact⟨_,_,Wk.refl _,Fg.setA (Fg.refl _) hb,PC (⟨⟨p,g,q,hg⟩,o,c⟩:OB) rfl ⟨⟨HS.out,H2.out,H3.out⟩,OKeep.refl _ _,rfl⟩⟩
def ak (ks:TW):Ta:=ks.map fun(k:Nat)=>[VV.int .i64 (k:Int)]
theorem aH {ks:TW}{i k:Nat}(h:ks[i]?=some k):(ak ks)[i]?=some [VV.int .i64 (k:Int)]:=by simp[ak,h]
theorem natsL_len {ks:TW}:(ak ks).length=ks.length:=z_ _
theorem MG (s:St)(K:OB)(n B:Nat)(ns:Td)(hO:OMem s K n B ns)(ks:TW)(hks:∀k,k∈ks->k<ns.length)(hkn:ks.length<=1000000)(ow:Own) :
  SCalls Tryz.prog 107 [.ptr K.o 0,.lst (ak ks) ow] s fun w u=>∃a:FrA,w=.ret (.int .i64 0)/\u=a.1/\OMem1 a.1 a.2 n B ns/\OKeep s a.1 K a.2/\a.2.s=K.s:=by
 have wF:=B9 s K n B ns hO
 have hlen:(ak ks).length=ks.length:=natsL_len
 have hat:=fun i k (h:ks[i]?=some k)=>aH h
 obtain⟨d,c,ho⟩:=hO.op
 obtain⟨mk,hm⟩:=hO.st.mem
 have w1:=fun(k:Nat) (t:Tr) (hk:ns[k]?=some t)=>c8 s K.s.p K.s.g K.s.q n B k ns t mk 0 hm hk
 generalize K.o=o at *
 generalize K.s.p=p at *
 clear hm hO
 unfold c9 mn at *
 have hof:s o≠.free:=by rw[ho];simp
 have HK:=o_ hks
 have HA:=o_ hat
 have HW:=o_ w1
 clear hks hat w1
 generalize ak ks=L at *
 refine am Tryz.func107 rfl Tryz.ntmps107 rfl fun Q hQ hQe=>?_
 (repeat'(first|refine Ctl ?_|((with_reducible refine k_ hK ?_);clear hK hE K E)|((with_reducible refine bZ (fun h=>?_) (fun h=>?_))<;>(try(exfalso;assumption)))|(((with_reducible refine ab fun K E hK hE=>?_))<;>(try simp(disch:=assumption) only[go_sem,seval,hlen, *]))))
 refine aY (fun m env s'=>∃(i:Nat),i<=ks.length/\m+i=ks.length/\s'=s/\env 0=.ptr o 0/\env 20=.lst L ow/\env 21=.int .i64 ks.length/\env 22=.int .i64 i) ks.length
  ⟨0,by omega,by omega,rfl,ac,ac,ac,ac⟩ ?_
 rintro m env s' ⟨i,hi,hmi,rfl,e0,e20,e21,e22⟩
 by_cases h2:i<ks.length
 ·have hk:=m_ h2
  have hkl:=HK.out _ (y_ hk)
  have hx:=HA.out _ _ hk
  have w1:=HW.out _ _ (m_ hkl)
  clear hk
  generalize ks[i]=k at *
  (repeat'(first|refine Ctl ?_|((with_reducible refine k_ hK ?_);clear hK hE K E)|((with_reducible refine bZ (fun h=>?_) (fun h=>?_))<;>(try(exfalso;assumption)))|(((with_reducible first|refine ab fun K E hK hE=>?_|refine ae ey (w1) ?_))<;>(try simp(disch:=omega) only[go_sem,seval,hx, *]))))
  all_goals exact⟨m - 1,by omega,i+1,by omega,by omega,rfl,ac,ac,ac,ac⟩
 ·(repeat'(first|refine Ctl ?_|((with_reducible refine k_ hK ?_);clear hK hE K E)|((with_reducible refine bZ (fun h=>?_) (fun h=>?_))<;>(try(exfalso;assumption)))|((first|(with_reducible refine ab fun K E hK hE=>?_)|((with_reducible refine ao Mi (wF) (fun a h=>?_))))<;>(try simp(disch:=assumption) only[go_sem,seval, *]))))
  all_goals(refine aq As hQ ?_)
  exact⟨_,_,Wk.refl _,Fg.refl _,a,rfl,rfl,h⟩
theorem B8 (s:St)(K:OB)(n B:Nat)(ns:Td)(hO:OMem s K n B ns)(v k:Nat)(t:Tr)(hk:ns[k]?=some t) :
  SRet Tryz.prog 143 [.ptr K.o 0,.int .i64 v,.int .i64 k] s (.tup (if aW n t=v then [.int .i64 (lowN ns t),.int .i64 (highN ns t)] else [.int .i64 k,.int .i64 k])) s:=by
 obtain⟨d,c,ho⟩:=hO.op
 obtain⟨mk,hm⟩:=hO.st.mem
 have w1:=c8 s K.s.p K.s.g K.s.q n B k ns t mk 0 hm hk
 generalize K.o=o at *
 generalize K.s.p=p at *
 clear hm hO hk
 unfold c9 mn at *
 have hof:s o≠.free:=by rw[ho];simp
 generalize aW n t=w at *
 generalize lowN ns t=l at *
 generalize highN ns t=h at *
 by_cases e:w=v
 ·subst e
  simp only[if_true]
  refine am Tryz.func143 rfl Tryz.ntmps143 rfl fun Q hQ hQe=>?_
  (repeat'(first|refine Ctl ?_|((with_reducible refine k_ hK ?_);clear hK hE K E)|((with_reducible refine bZ (fun h=>?_) (fun h=>?_))<;>(try(exfalso;assumption)))|(((with_reducible first|refine ab fun K E hK hE=>?_|refine ae ey (w1) ?_))<;>(try simp(disch:=assumption) only[go_sem,seval, *]))))
  all_goals(refine aq uz hQ ?_)
  all_goals(refine⟨_,_,Wk.of_eq ?_,?_,rfl,rfl⟩)
  all_goals first|rfl|(exact bK)
 ·have e2:¬ (w:Int)=v:=by omega
  simp only[if_neg e]
  clear e
  refine am Tryz.func143 rfl Tryz.ntmps143 rfl fun Q hQ hQe=>?_
  (repeat'(first|refine Ctl ?_|((with_reducible refine k_ hK ?_);clear hK hE K E)|((with_reducible refine bZ (fun h=>?_) (fun h=>?_))<;>(try(exfalso;assumption)))|(((with_reducible first|refine ab fun K E hK hE=>?_|refine ae ey (w1) ?_))<;>(try simp(disch:=assumption) only[go_sem,seval, *]))))
  all_goals(refine aq uz hQ ?_)
  all_goals(refine⟨_,_,Wk.of_eq ?_,?_,rfl,rfl⟩)
  all_goals first|rfl|(exact bK)
theorem uZ (a b:Nat):be false (.int .i64 (a:Int)) (.int .i64 (b:Int))=some (.int .i64 ((min a b:Nat):Int)):=by
 have:be false (.int .i64 (a:Int)) (.int .i64 (b:Int))=some (.int .i64 (if (b:Int)<a then b else a)):=by simp[be]
 rw[this]
 congr 2
 split<;>omega
theorem MC (s:St)(K:OB)(n B:Nat)(ns:Td)(hO:OMem s K n B ns)(ka kb kc:Nat)(ta tb tc:Tr)(ha:ns[ka]?=some ta)(hb:ns[kb]?=some tb)(hc:ns[kc]?=some tc)(ow:Own) :
  SRet Tryz.prog 142 [.ptr K.o 0,.lst [[.int .i64 ka],[.int .i64 kb],[.int .i64 kc]] ow] s (.int .i64 ((min (min (min n (aW n ta)) (aW n tb)) (aW n tc):Nat):Int)) s:=by
 obtain⟨d,c,ho⟩:=hO.op
 obtain⟨mk,hm⟩:=hO.st.mem
 have w0:=kI s K.s.p K.s.g K.s.q n B ns mk 0 hm
 have w1:=c8 s K.s.p K.s.g K.s.q n B ka ns ta mk 0 hm ha
 have w2:=c8 s K.s.p K.s.g K.s.q n B kb ns tb mk 0 hm hb
 have w3:=c8 s K.s.p K.s.g K.s.q n B kc ns tc mk 0 hm hc
 generalize K.o=o at *
 generalize K.s.p=p at *
 clear hm hO ha hb hc
 unfold c9 mn at *
 have hof:s o≠.free:=by rw[ho];simp
 generalize aW n ta=va at *
 generalize aW n tb=vb at *
 generalize aW n tc=vc at *
 have m1:=uZ n va
 have m2:=uZ (min n va) vb
 have m3:=uZ (min (min n va) vb) vc
 generalize lowN ns ta=la at *
 generalize lowN ns tb=lb at *
 generalize lowN ns tc=lc at *
 generalize highN ns ta=ha at *
 generalize highN ns tb=hb at *
 generalize highN ns tc=hc at *
 generalize min (min (min n va) vb) vc=u3 at *
 generalize min (min n va) vb=u2 at *
 generalize min n va=u1 at *
 refine am Tryz.func142 rfl Tryz.ntmps142 rfl fun Q hQ hQe=>?_
 (repeat'(first|refine Ctl ?_|((with_reducible refine k_ hK ?_);clear hK hE K E)|(((with_reducible first|refine ab fun K E hK hE=>?_|refine ae oX (w0) ?_))<;>(try simp(disch:=assumption) only[go_sem,seval, *]))))
 refine kJ 4 (cD 3 ?_)
 (repeat'(first|refine Ctl ?_|((with_reducible refine k_ hK ?_);clear hK hE K E)|((with_reducible refine bZ (fun h=>?_) (fun h=>?_))<;>(try(exfalso;assumption)))|(((with_reducible first|refine ab fun K E hK hE=>?_|refine ae ey (w1) ?_))<;>(try simp(disch:=omega) only[go_sem,seval,m1, *]))))
 refine cD 2 ?_
 (repeat'(first|refine Ctl ?_|((with_reducible refine k_ hK ?_);clear hK hE K E)|((with_reducible refine bZ (fun h=>?_) (fun h=>?_))<;>(try(exfalso;assumption)))|(((with_reducible first|refine ab fun K E hK hE=>?_|refine ae ey (w2) ?_))<;>(try simp(disch:=omega) only[go_sem,seval,m2, *]))))
 refine cD 1 ?_
 (repeat'(first|refine Ctl ?_|((with_reducible refine k_ hK ?_);clear hK hE K E)|((with_reducible refine bZ (fun h=>?_) (fun h=>?_))<;>(try(exfalso;assumption)))|(((with_reducible first|refine ab fun K E hK hE=>?_|refine ae ey (w3) ?_))<;>(try simp(disch:=omega) only[go_sem,seval,m3, *]))))
 refine cD 0 ?_
 (repeat'(first|refine Ctl ?_|((with_reducible refine k_ hK ?_);clear hK hE K E)|((with_reducible refine bZ (fun h=>?_) (fun h=>?_))<;>(try(exfalso;assumption)))|(((with_reducible refine ab fun K E hK hE=>?_))<;>(try simp(disch:=assumption) only[go_sem,seval, *]))))
 all_goals(refine aq Aj hQ ?_)
 all_goals(refine⟨_,_,Wk.of_eq ?_,?_,rfl,rfl⟩)
 all_goals first|rfl|(exact bK)
theorem iN (e:CE):(ceC e).length=5:=rfl
theorem oU:∀(l:List CE),(cP l).length=l.length * 5
 |[]=>rfl
 |e::l=>by
  have:=oU l
  simp only[cP]at this
  simp only[cP,List.map_cons,List.flatten_cons,p_,iN,this,List.length_cons]
  omega
theorem rD:∀{l:List CE} {k:Nat} {e:CE},l[k]?=some e->((cP l).drop (k * 5)).take 5=ceC e
 |[],k,e,h=>by simp at h
 |q::l,0,e,h=>by
  simp at h
  subst h
  simp only[cP,List.map_cons,List.flatten_cons,Nat.zero_mul,List.drop_zero]
  rw[List.take_left' (iN q)]
 |q::l,k+1,e,h=>by
  have ih:=rD (l:=l) (k:=k) (e:=e) (by simpa using h)
  simp only[cP]at ih
  simp only[cP,List.map_cons,List.flatten_cons]
  rw[show (k+1) * 5=(ceC q).length+k * 5 by rw[iN];omega,List.drop_append,List.drop_eq_nil_of_le (by omega),Nat.add_sub_cancel_left,List.nil_append,ih]
theorem qG {l:List CE}{k:Nat}{e:CE}(h:l[k]?=some e){j:Nat}(hj:j<5):(cP l)[k * 5+j]?=(ceC e)[j]?:=by
 have h1:=rD h
 have h4:(((cP l).drop (k * 5)).take 5)[j]?=(ceC e)[j]?:=by rw[h1]
 rw[List.getElem?_take_of_lt hj,List.getElem?_drop]at h4
 exact h4
theorem BA {l:List CE}{k:Nat}{e:CE}(h:l[k]?=some e):((cP l).drop (k * 5+1)).take 3=[.int .i64 e.a,.int .i64 e.b,.int .i64 e.c]:=by
 have h1:=rD h
 have h2:((((cP l).drop (k * 5)).take 5).drop 1).take 3=[.int .i64 e.a,.int .i64 e.b,.int .i64 e.c]:=by rw[h1];rfl
 rw[List.drop_take,List.take_take,List.drop_drop]at h2
 exact h2
theorem tJ:∀{l:List CE} {k:Nat} {e:CE},k<l.length->splice (cP l) (k * 5) (ceC e)=cP (l.set k e)
 |[],k,e,h=>by simp at h
 |q::l,0,e,h=>by
  simp only[splice,cP,List.map_cons,List.flatten_cons,Nat.zero_mul,List.take_zero,List.nil_append,List.set_cons_zero,Nat.zero_add]
  rw[iN,<- iN q,List.drop_left']
  rfl
 |q::l,k+1,e,h=>by
  have ih:=tJ (l:=l) (k:=k) (e:=e) (by simpa using h)
  simp only[splice,cP]at ih
  simp only[splice,cP,List.map_cons,List.flatten_cons,List.set_cons_succ]
  rw[<- ih,show (k+1) * 5=(ceC q).length+k * 5 by rw[iN];omega,List.take_append,s_ (by omega),Nat.add_sub_cancel_left,Nat.add_assoc,List.drop_append,List.drop_eq_nil_of_le (by omega),Nat.add_sub_cancel_left,List.nil_append]
  simp only[List.append_assoc]
theorem E7 {l:List CE}{k:Nat}(h:k<l.length):k * 5+5<=(cP l).length:=by
 rw[oU]
 omega
theorem yX:∃f:Int->Nat,(∀q,bF .and .i64 q 4095=some (.int .i64 ((f q:Nat):Int)))/\∀q,f q<4096:=by
 refine⟨fun q=>(q % 4096).toNat,fun q=>?_,fun q=>by show (q % 4096).toNat<4096;omega⟩
 have h:=kC q 12 (by omega)
 have h2:jv .i64 q 4095=q % 4096:=h
 show some (VV.int .i64 (jv .i64 q 4095))=_
 rw[h2]
 have:(((q % 4096).toNat:Nat):Int)=q % 4096:=by omega
 rw[this]
theorem NsOk.lo {n:Nat}{ns:Td}(h:NsOk n ns){t:Tr}(ht:t∈ns)(v:Nat):loT v t∈ns/\hiT v t∈ns:=by
 cases t with
 |lf b=>exact⟨ht,ht⟩
 |nd w l r=>
  obtain⟨a,b⟩:=h.ch _ _ _ ht
  refine⟨?_,?_⟩
  ·show (if w=v then l else .nd w l r)∈ns
   split<;>assumption
  ·show (if w=v then r else .nd w l r)∈ns
   split<;>assumption
theorem pn {s:St}{K:OB}{n B:Nat}{ns:Td}(hO:OMem s K n B ns){v:Nat}(hv:v<n){t:Tr}(ht:t∈ns) :
  SRet Tryz.prog 143 [.ptr K.o 0,.int .i64 v,.int .i64 (ixN ns t:Nat)] s (.tup [.int .i64 (ixN ns (loT v t):Nat),.int .i64 (ixN ns (hiT v t):Nat)]) s:=by
 have h:=B8 s K n B ns hO v (ixN ns t) t (bS ht)
 cases t with
 |lf b=>
  have:¬ aW n (.lf b)=v:=by simp only[aW];omega
  rw[if_neg this]at h
  exact h
 |nd w l r=>
  by_cases e:w=v
  ·rw[if_pos (show aW n (.nd w l r)=v from e)]at h
   simp only[lowN,highN]at h
   simp only[loT,hiT,if_pos e]
   exact h
  ·rw[if_neg (show ¬ aW n (.nd w l r)=v from e)]at h
   simp only[loT,hiT,if_neg e]
   exact h
theorem NsOk.one {n:Nat}{ns:Td}(h:NsOk n ns){t:Tr}(ht:t∈ns):(ixN ns t=1↔t=.lf true)/\(ixN ns t=0↔t=.lf false):=by
 have h0:=h.lf false
 have h1:=h.lf true
 refine⟨⟨fun e=>cw ht h1.1 (e.trans h1.2.symm),fun e=>by rw[e];exact h1.2⟩,⟨fun e=>cw ht h0.1 (e.trans h0.2.symm),fun e=>by rw[e];exact h0.2⟩⟩
abbrev gJ:=St×OB×Td
structure OpR (s:St) (K:OB) (n B:Nat) (ns:Td) (T:Tr) (a:gJ):Prop where
 m:OMem1 a.1 a.2.1 n B a.2.2
 e:ExtN ns a.2.2 T
 k:OKeep s a.1 K a.2.1
 c:a.2.1.c=K.c
def lE (s:St)(K:OB)(n B:Nat)(ns:Td)(ta tb tc:Tr):Prop:=
 SCalls Tryz.prog 108 [.ptr K.o 0,.int .i64 (ixN ns ta:Nat),.int .i64 (ixN ns tb:Nat),.int .i64 (ixN ns tc:Nat)] s fun w u=>∃a:gJ,w=.ret (.tup [.int .i64 (ixN a.2.2 (iteT n ta tb tc):Nat),.int .i64 0])/\u=a.1/\OpR s K n B ns (iteT n ta tb tc) a
theorem OMem1.live' {s:St}{K:OB}{n B:Nat}{ns:Td}(h:OMem1 s K n B ns){z:Nat}(hz:K.has z):s z≠.free:=OMem.live (.inr h) hz
theorem OMem1.keep {s u:St}{K:OB}{n B:Nat}{ns:Td}(h:OMem1 s K n B ns)(hk:∀z,K.has z->u z=s z):OMem1 u K n B ns:=by
 obtain⟨xs,e,hx⟩:=h.ca
 exact⟨h.st.keep fun z hz=>hk z (.inl hz),(hk _ (.inr (.inl rfl))).trans h.ob,⟨xs,(hk _ (.inr (.inr rfl))).trans e,hx⟩⟩
theorem OMem1.sep {s:St}{K:OB}{n B:Nat}{ns:Td}(h:OMem1 s K n B ns):¬ K.s.has K.c/\¬ K.s.has K.o:=by
 obtain⟨mk,hm⟩:=h.st.mem
 obtain⟨ps,ht,_⟩:=h.st.tab
 obtain⟨xs,e,_⟩:=h.ca
 have ho:=h.ob
 constructor
 ·rintro(e1|e1|e1|e1)
  ·have:=hm.o;rw[<- e1,e]at this;cases this
  ·have:=hm.r;rw[<- e1,e]at this;cases this
  ·have:=ht.tab.o;rw[<- e1,e]at this;cases this
  ·have:=ht.tab.r;rw[<- e1,e]at this;cases this
 ·rintro(e1|e1|e1|e1)
  ·have:=hm.o;rw[<- e1,ho]at this;cases this
  ·have:=hm.r;rw[<- e1,ho]at this;cases this
  ·have:=ht.tab.o;rw[<- e1,ho]at this;cases this
  ·have:=ht.tab.r;rw[<- e1,ho]at this;cases this
theorem SKeep.toO {s u:St}{K:OB}{K':SB}(h:SKeep s u K.s K'):OKeep s u K ⟨K',K.o,K.c⟩:=by
 refine⟨h.p,h.q,rfl,fun z hz=>?_,fun z hz hn=>h.out z hz fun e=>hn (.inl e)⟩
 rcases hz with e|e|e
 ·rcases h.nw z e with e|e
  ·exact .inl (.inl e)
  ·exact .inr e
 ·exact .inl (.inr (.inl e))
 ·exact .inl (.inr (.inr e))
theorem CacheOk.ext {n:Nat}{ns ns':Td}{R:Tr}{xs:List CE}(h:CacheOk n ns xs)(he:ExtN ns ns' R):CacheOk n ns' xs:=by
 refine⟨h.1,fun e hm hi=>?_⟩
 obtain⟨ta,tb,tc,a,b,c,q1,q2,q3,d,q4⟩:=h.2 e hm hi
 obtain⟨a1,a2⟩:=he.sub a
 obtain⟨b1,b2⟩:=he.sub b
 obtain⟨c1,c2⟩:=he.sub c
 obtain⟨d1,d2⟩:=he.sub d
 exact⟨ta,tb,tc,a1,b1,c1,by rw[a2];exact q1,by rw[b2];exact q2,by rw[c2];exact q3,d1,by rw[d2];exact q4⟩
theorem FitN.ext {ns ns':Td}{R R' T:Tr}{B:Nat}(h:FitN ns T B)(he:ExtN ns ns' R)(hR:∀t,t∈aL R->t∈aL T)(hR':∀t,t∈aL R'->t∈aL T):FitN ns' R' B:=fun X hX hs=>h X hX fun t ht=>by
 rcases hs t ht with e|e
 ·rcases he.new t e with e|e
  ·exact .inl e
  ·exact .inr (hR t e)
 ·exact .inr (hR' t e)
theorem kH {s:St}{K:OB}{n B:Nat}{ns:Td}(hO:OMem1 s K n B ns){ta tb tc:Tr}(ha:ta∈ns)(hb:tb∈ns)(hc:tc∈ns)(h:ta=.lf true\/tb=tc):lE s K n B ns ta tb tc:=by
 have hN:=hO.st.ok
 have hT:iteT n ta tb tc=tb:=by
  rcases h with h|h
  ·rw[h];exact Bb (hN.ok _ hb) (hN.ok _ hc)
  ·rw[<- h];exact yG (hN.ok _ ha) (hN.ok _ hb)
 unfold lE
 rw[hT]
 have hR:OpR s K n B ns tb (s,K,ns):=⟨hO,.refl hb,.refl _ _,rfl⟩
 have h2:((ixN ns ta:Nat):Int)=1\/((ixN ns tb:Nat):Int)=((ixN ns tc:Nat):Int):=by
  rcases h with h|h
  ·exact .inl (by rw[((hN.one ha).1).2 h];rfl)
  ·exact .inr (by rw[h])
 have HR:=o_ hR
 have hX:(ixN (s,K,ns).2.2 tb)=ixN ns tb:=rfl
 clear hR h hO hT
 suffices hs:SRet Tryz.prog 108 [.ptr K.o 0,.int .i64 (ixN ns ta:Nat),.int .i64 (ixN ns tb:Nat),.int .i64 (ixN ns tc:Nat)] s (.tup [.int .i64 (ixN ns tb:Nat),.int .i64 0]) s by
  refine SCalls.mono (h:=hs) ?_
  rintro w u ⟨rfl,rfl⟩
  exact⟨(u,K,ns),rfl,rfl,HR.out⟩
 generalize ixN ns ta=ka at *
 generalize ixN ns tb=kb at *
 generalize ixN ns tc=kc at *
 by_cases e:(ka:Int)=1
 ·refine am Tryz.func108 rfl Tryz.ntmps108 rfl fun Q hQ hQe=>?_
  (repeat'(first|refine Ctl ?_|((with_reducible refine k_ hK ?_);clear hK hE K E)|((with_reducible refine bZ (fun h=>?_) (fun h=>?_))<;>(try(exfalso;assumption)))|(((with_reducible refine ab fun K E hK hE=>?_))<;>(try simp(disch:=assumption) only[go_sem,seval, *]))))
  all_goals(refine aq jj hQ ?_)
  all_goals(refine⟨_,_,Wk.of_eq ?_,?_,rfl,rfl⟩)
  all_goals first|rfl|(exact bK)
 ·have h3:kb=kc:=by have:=h2.resolve_left e;omega
  subst h3
  clear h2 hX
  refine am Tryz.func108 rfl Tryz.ntmps108 rfl fun Q hQ hQe=>?_
  (repeat'(first|refine Ctl ?_|((with_reducible refine k_ hK ?_);clear hK hE K E)|((with_reducible refine bZ (fun h=>?_) (fun h=>?_))<;>(try(exfalso;assumption)))|(((with_reducible refine ab fun K E hK hE=>?_))<;>(try simp(disch:=assumption) only[go_sem,seval, *]))))
  all_goals(refine aq jj hQ ?_)
  all_goals(refine⟨_,_,Wk.of_eq ?_,?_,rfl,rfl⟩)
  all_goals first|rfl|(exact bK)
end Go.Proofs.YtohnaepcgnbaiaaGreatDoor
