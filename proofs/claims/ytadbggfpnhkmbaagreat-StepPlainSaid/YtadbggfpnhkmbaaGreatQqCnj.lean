/- Walks of functions that the claim reaches, and plain facts of them. Conditions: those in the statements. -/
import Derived.Test.YtadbggfpnhkmbaaGreatQqCgj
import Derived.Test.YtadbggfpnhkmbaaGreatQqPkj
set_option linter.unusedSimpArgs false
set_option linter.unusedVariables false
set_option maxRecDepth 100000
namespace Go.Proofs.YtadbggfpnhkmbaaGreat
open Go.RowKit
structure EachOk {A:Type} (g:FuncId) (caps:List VV) (Base:St→Prop) (S:A→St→St) (f:A→Stm→A) (good:Stm→Prop) (I:Nat→A→Prop):Prop where
 ext:∀t a b c,Base t→S a t b=.free→Base (t.set b c)
 com:∀t a b c,Base t→S a t b=.free→S a (t.set b c)=(S a t).set b c
 fr:∀t a a' b,Base t→S a t b=.free→S a' t b=.free
 dec:∀a x k,good x→I (k+1) a→I k (f a x)
 low:∀a k,I (k+1) a→I k a
 run:∀t a x k,Base t→good x→I (k+1) a→SRet Tryz.prog g (.agg (stC x)::caps) (S a t) (.tup []) (S (f a x) t)
mutual
def szS:Stm→Nat
 |.mk _ _ _ _ _ _ o t=>1+szL o+szL t
def szL:List Stm→Nat
 |[]=>0
 |x::l=>szS x+szL l
end
def subs:Stm→List Stm×List Stm
 |.mk _ _ _ _ _ _ o t=>(o,t)
theorem szL_at {x:Stm}:∀{l:List Stm},x∈l→szS x≤szL l
 |[],h=>by cases h
 |y::l,h=>by
  simp only[szL]
  rcases List.mem_cons.1 h with e|e
  ·subst e;omega
  ·have:=szL_at e;omega
structure LOk (good:Stm→Prop) (l:List Stm):Prop where
 len:l.length≤100000
 all:∀x,x∈preL l→good x∧(subs x).1.length≤100000∧(subs x).2.length≤100000
theorem preL_drop {l:List Stm}{i:Nat}{x:Stm}(h:l[i]?=some x):preL (l.drop i)=preS x++preL (l.drop (i+1)):=by
 have hlt:=(List.getElem?_eq_some_iff.1 h).1
 have hx:l[i]=x:=by rw[List.getElem?_eq_getElem hlt]at h;injection h
 rw[List.drop_eq_getElem_cons hlt,hx]
 rfl
theorem preS_mem {x:Stm}:∀{l:List Stm},x∈l→∀y,y∈preS x→y∈preL l
 |[],h,_,_=>by cases h
 |z::l,h,y,hy=>by
  simp only[preL,List.mem_append]
  rcases List.mem_cons.1 h with e|e
  ·subst e;exact .inl hy
  ·exact .inr (preS_mem e y hy)
section
variable {A : Type} {g : FuncId} {caps : List VV} {Base : St → Prop} {S : A → St → St} {f : A → Stm → A} {good : Stm → Prop} {I : Nat → A → Prop}
theorem EachOk.lows (h:EachOk g caps Base S f good I){a:A}{k:Nat}:∀(j:Nat),I (k+j) a→I k a
 |0,hi=>hi
 |j+1,hi=>h.lows j (h.low a (k+j) hi)
theorem EachOk.decs (h:EachOk g caps Base S f good I){k:Nat}:∀(l:List Stm) (a:A),(∀x,x∈l→good x)→I (k+l.length) a→I k (l.foldl f a)
 |[],a,_,hi=>hi
 |x::l,a,hg,hi=>h.decs l (f a x) (fun y hy=>hg y (by simp[hy])) (h.dec a x (k+l.length) (hg x (by simp)) hi)
end
set_option maxHeartbeats 4000000 in
theorem Ceach_S {A:Type}(g:FuncId)(caps:List VV)(Base:St→Prop)(S:A→St→St)(f:A→Stm→A)(good:Stm→Prop)(I:Nat→A→Prop)(canG:Callable Tryz.prog g)(hE:EachOk g caps Base S f good I) :
  ∀(n:Nat) (l:List Stm),szL l<n→LOk good l→∀(t:St) (a:A),Base t→I (preL l).length a→SRet Tryz.prog 16 [.lst (stsC l) .no,.fn g caps] (S a t) (.tup []) (S ((preL l).foldl f a) t):=by
 intro n
 induction n with
 |zero=>intro l hl;omega
 |succ n ih=>
  intro l hl hok t a hB hI
  have hlen:(stsC l).length=l.length:=stsC_len l
  have hll:=hok.len
  generalize hR:S ((preL l).foldl f a) t=R
  have HR:=Lib.hid hR
  clear hR
  generalize hs0:S a t=s0
  have HS0:=Lib.hid hs0
  clear hs0
  refine G_enter Tryz.func16 rfl Tryz.ntmps16 rfl fun Q hQ hQe=>?_
  (repeat'(first|refine Ctl ?_|((with_reducible refine Kof.use hK ?_);clear hK hE K E)|((with_reducible refine Eof.use hE ?_);(try clear hK hE K E))|((with_reducible refine W_cond (fun h=>?_) (fun h=>?_))<;>(try(exfalso;first|assumption|omega)))|((first|(with_reducible first|refine G_region fun K E hK hE=>?_|refine W_if ?_|refine W_ifS ?_|refine W_and ?_)|((with_reducible refine W_fresh (fun b hb=>?_));(repeat(obtain⟨_,hb⟩:=hb))))<;>(try simp(disch:=first|assumption|omega) only[go_sem,seval,hlen, *]))))
  refine G_loop (fun m env s'=>∃(i:Nat) (a:A),i≤l.length∧m+i=l.length∧I (preL (l.drop i)).length a∧Hid (S a t=s')∧Hid (S ((preL (l.drop i)).foldl f a) t=R)∧env 1=.fn g caps∧env 6=.lst (stsC l) .no∧env 7=.int .i64 l.length∧env 8=.int .i64 i) l.length ?_ ?_
  ·exact⟨_,Fg.refl _,0,a,by omega,by omega,hI,HS0,HR,z_sl,z_sl,z_sl,z_sl⟩
  clear HR HS0
  clear hI
  rintro m env s' ⟨i,a,hi,hm,hI,HS,HR,e1,e6,e7,e8⟩
  by_cases hlt:i<l.length
  ·obtain⟨x,hx⟩:=uget hlt
   have hsx:=stsC_at hx
   have hxm:=List.mem_of_getElem? hx
   have hsz:=szL_at hxm
   have hr:=HR.out
   rw[preL_drop hx,List.foldl_append]at hr
   rw[preL_drop hx,List.length_append]at hI
   have hok2:=fun y hy=>hok.all y (preS_mem hxm y hy)
   have hs:=HS.out
   obtain⟨k,d,sr,cn,nm,ar,o,t2⟩:=x
   simp only[preS,List.foldl_cons,List.foldl_append]at hr
   simp only[szS]at hsz
   simp only[preS,List.length_cons,List.length_append]at hI
   have hx0:=hok2 _ (by simp only[preS];exact List.mem_cons_self)
   have hlo:LOk good o:=⟨hx0.2.1,fun y hy=>hok2 y (by simp only[preS,List.mem_cons,List.mem_append];exact .inr (.inl hy))⟩
   have hlt2:LOk good t2:=⟨hx0.2.2,fun y hy=>hok2 y (by simp only[preS,List.mem_cons,List.mem_append];exact .inr (.inr hy))⟩
   have w1:∀b,s' b=.free→SRet Tryz.prog g (.agg (stC (.mk k d sr cn nm ar o t2))::caps) (s'.set b (.obj 34 (stC (.mk k d sr cn nm ar o t2)))) (.tup []) ((S (f a (.mk k d sr cn nm ar o t2)) t).set b (.obj 34 (stC (.mk k d sr cn nm ar o t2)))):=fun b hb=>by
    rw[← hs]at hb ⊢
    rw[← hE.com t _ b _ hB hb,← hE.com t (f a _) b _ hB (hE.fr t _ _ b hB hb)]
    exact hE.run _ a _ _ (hE.ext t a b _ hB hb) hx0.1 (show I ((preL o).length+(preL t2).length+(preL (l.drop (i+1))).length+1) a by rw[show (preL o).length+(preL t2).length+(preL (l.drop (i+1))).length+1=(preL o).length+(preL t2).length+1+(preL (l.drop (i+1))).length by omega];exact hI)
   have hI1:I ((preL o).length+(preL t2).length+(preL (l.drop (i+1))).length) (f a (.mk k d sr cn nm ar o t2)):=hE.dec a _ _ hx0.1 (by rw[show (preL o).length+(preL t2).length+(preL (l.drop (i+1))).length+1=(preL o).length+(preL t2).length+1+(preL (l.drop (i+1))).length by omega];exact hI)
   generalize hA1:f a (.mk k d sr cn nm ar o t2)=a1 at w1 hr hI1
   have wn:∀(q:List Stm) (c:A),szL q<n→LOk good q→I (preL q).length c→∀b z,s' b=.free→SRet Tryz.prog 16 [.lst (stsC q) .no,.fn g caps] ((S c t).set b z) (.tup []) ((S ((preL q).foldl f c) t).set b z):=fun q c hq hqo hqi b z hb=>by
    rw[← hs]at hb
    rw[← hE.com t _ b _ hB (hE.fr t _ _ b hB hb),← hE.com t _ b _ hB (hE.fr t _ _ b hB hb)]
    exact ih q hq hqo _ _ (hE.ext t a b _ hB hb) hqi
   have w2:=wn o a1 (by omega) hlo (hE.lows ((preL t2).length+(preL (l.drop (i+1))).length) (by rw[← Nat.add_assoc];exact hI1))
   have hI2:I ((preL t2).length+(preL (l.drop (i+1))).length) ((preL o).foldl f a1):=hE.decs (preL o) a1 (fun y hy=>(hlo.all y hy).1) (by rw[show (preL t2).length+(preL (l.drop (i+1))).length+(preL o).length=(preL o).length+(preL t2).length+(preL (l.drop (i+1))).length by omega];exact hI1)
   generalize hA2:(preL o).foldl f a1=a2 at w2 hr hI2
   have w3:=wn t2 a2 (by omega) hlt2 (hE.lows (preL (l.drop (i+1))).length hI2)
   have hI3:I (preL (l.drop (i+1))).length ((preL t2).foldl f a2):=hE.decs (preL t2) a2 (fun y hy=>(hlt2.all y hy).1) (by rw[Nat.add_comm];exact hI2)
   generalize hA3:(preL t2).foldl f a2=a3 at w3 hr hI3
   have f3:∀b,s' b=.free→S a3 t b=.free:=fun b hb=>by rw[← hs]at hb;exact hE.fr t _ _ b hB hb
   generalize hS1:S a1 t=s1 at w1 w2
   generalize hS2:S a2 t=s2 at w2 w3
   generalize hS3:S a3 t=s3 at w3 f3
   have HS3:=Lib.hid hS3
   have HR3:=Lib.hid hr
   simp only[stC,strsV]at w1 hsx
   clear hI hI1 hI2 HR HS hok hok2 hr hs hx0 hlo hlt2 wn hA1 hA2 hA3 hS1 hS2 hS3 hx hxm hsz
   (repeat'(first|refine Ctl ?_|((with_reducible refine Kof.use hK ?_);clear hK hE K E)|((with_reducible refine Eof.use hE ?_);(try clear hK hE K E))|((with_reducible refine W_cond (fun h=>?_) (fun h=>?_))<;>(try(exfalso;first|assumption|omega)))|((first|(with_reducible first|refine G_region fun K E hK hE=>?_|refine call_ret canG (w1 _ (by assumption)) ?_|refine call_ret can16 (w2 _ _ (by assumption)) ?_|refine call_ret can16 (w3 _ _ (by assumption)) ?_|refine W_if ?_|refine W_ifS ?_|refine W_and ?_)|((with_reducible refine W_fresh (fun b hb=>?_));(repeat(obtain⟨_,hb⟩:=hb))))<;>(try simp(disch:=first|assumption|omega) only[go_sem,seval,hlen,hsx, *]))))
   exact⟨s3,Fg.of_set _ (f3 _ hb),m - 1,by omega,i+1,a3,by omega,by omega,hI3,HS3,HR3,z_sl,z_sl,z_sl,z_sl⟩
  ·have hr:=HR.out
   rw[List.drop_of_length_le (by omega)]at hr
   obtain rfl:s'=R:=HS.out.symm.trans hr
   clear hr HR HS
   (repeat'(first|refine Ctl ?_|((with_reducible refine Kof.use hK ?_);clear hK hE K E)|((with_reducible refine Eof.use hE ?_);(try clear hK hE K E))|((with_reducible refine W_cond (fun h=>?_) (fun h=>?_))<;>(try(exfalso;first|assumption|omega)))|((first|(with_reducible first|refine G_region fun K E hK hE=>?_|refine W_if ?_|refine W_ifS ?_|refine W_and ?_)|((with_reducible refine W_fresh (fun b hb=>?_));(repeat(obtain⟨_,hb⟩:=hb))))<;>(try simp(disch:=first|assumption|omega) only[go_sem,seval,hlen, *]))))
   all_goals(first|refine W_ret res16 hQ ?_|refine W_norm res16 hQ ?_|refine G_pan hQ ?_)
   all_goals(refine⟨_,_,Wk.of_eq ?_,?_,rfl,rfl⟩)
   all_goals first|rfl|(exact z_fg)
attribute [local go_sem] p_enil1 p_enil2 p_nilE one_nil
theorem W_appF {s:St}{k:VV→St→Prop}{e:TypeId}{q:QI}{xs ys:List (List VV)}{p':Nat→Prop}(h1:k (.lst (xs++ys) .full) s)(h2:∀b,p' b→k (.lst (xs++ys) (.at_ b)) (s.set b (.vec e q.sz (xs.length+ys.length))))
  (hb:(xs.length+ys.length) * q.bt≤140737488355328:=by((try simp only[go_sem, *]);omega))
  (hm:xs.length+ys.length≤9223372036854775807:=by((try simp only[go_sem, *]);omega))
  (hx:∀y,y∈xs→y.length=q.sz:=by(intro y hy;simp only[List.mem_cons,List.not_mem_nil,or_false]at hy;rcases hy with rfl|rfl<;>simp))
  (hy:∀y,y∈ys→y.length=q.sz:=by first|assumption|(intro y hy;obtain⟨z,_,rfl⟩:=List.mem_map.1 hy;simp[strC]))
  (hz:q.zok=true:=by rfl)
  (hp:∀b,(s b=.free)=p' b:=by(intro b;(try simp(disch:=first|assumption|omega) only[go_sem,seval, *]);(try simp only[set_free_o,set_free_v,set_free_m,ite_free_o,ite_free_v,ite_free_m,set_free_p,ite_free_p]);rfl)) :
  vappend k e q xs ys .full s:=by
 refine⟨hb,hm,hy,hz,hx,fun h=>?_,fun _ b hf=>h2 b (hp b ▸ hf)⟩
 subst h
 rw[List.append_nil]at h1
 exact h1
def swR (x:List Cls):Stm→Bool
 |.mk k _ _ c n ar _ _=>if k=1 then(atC x n).isSome else if k=6 then(match lookN x c n true with|none=>false|some y=>decide (y.2.pars.length=ar.length))else if k=5 then calledB x n ar.length else true
def badR (st:Bool):Stm→Bool
 |.mk k d s _ _ ar _ _=>(decide (d=selfT) && decide (k≠4)) || (st && (d::s::ar).any fun a=>decide (a=selfT))
theorem stmR_eq (x:List Cls)(st:Bool)(s:Stm):stmR x st s=(!badR st s && swR x s):=by
 obtain⟨k,d,s,c,n,ar,o,t⟩:=s
 simp only[stmR,badR,swR,List.any_cons,Bool.or_assoc]
 rfl
set_option maxHeartbeats 8000000 in
theorem Cbd1_S (t:St)(p bm b2 b3 b5:Nat)(x:List Cls)(m:Mth)(hS:SrcAt t p bm x)(h2:t b2=.obj 76 [.ptr p 0])(h3:t b3=.obj 25 (mthC m))(h5:t b5=.free)
    (hx:x.length≤100000) (hl:∀c,c∈x→c.mths.length≤100000) (hst:∀i,i<x.length→startN x i≤100000) (a:Bool) (k:Int) (d sr cn nm:List UInt8) (ar:List (List UInt8)) (o t2:List Stm) (har:ar.length≤100000) :
    SRet Tryz.prog 50 [.agg (stC (.mk k d sr cn nm ar o t2)),.ptr b3 0,.ptr b5 0,.ptr b2 0] (t.set b5 (.obj 4 [.bool a])) (.tup []) (t.set b5 (.obj 4 [.bool (a && stmR x m.stat (.mk k d sr cn nm ar o t2))])):=by
  have hSf:∀s,Fg s t→SrcAt s p bm x:=fun s hs=>hS.fg hs
  have hal:(ar.map strC).length=ar.length:=by simp
  rw[stmR_eq]
  have w1:∀o s,SRet Tryz.prog 51 [.lst ([.str d]::[.str sr]::ar.map strC) o,.str selfT] s (.bool ((d::sr::ar).any fun a=>decide (a=selfT))) s:=fun o s=>contS_S (d::sr::ar) o selfT (by simp;omega) s
  simp only[badR,swR]
  generalize ((d::sr::ar).any fun a=>decide (a=selfT))=cb at w1 ⊢
  have w2:=fun s g1 g2=>Clook_S s p bm x cn nm true ⟨g1,g2⟩ hx hl hst
  have w3:=fun s g1 g2=>Ccalled_S s p bm x nm ar.length ⟨g1,g2⟩ hx hl
  have hlk:=atA16_lk (x:=x) nm
  obtain⟨k1,k2⟩:=hS
  have n2:¬ b2=b5:=(nef h5 (by rw[h2];simp)).1
  have n3:¬ b3=b5:=(nef h5 (by rw[h3];simp)).1
  have np:¬ p=b5:=(nef h5 (by rw[k1];simp)).1
  have nb:¬ bm=b5:=(nef h5 (by rw[k2];simp)).1
  have f2:t b2≠.free:=by rw[h2];simp
  have f3:t b3≠.free:=by rw[h3];simp
  have fp:t p≠.free:=by rw[k1];simp
  have fb:t bm≠.free:=by rw[k2];simp
  obtain⟨ms,mn,mp,mb⟩:=m
  simp only[mthC,strsV,stsV]at h3 ⊢
  simp only[stC,strsV]
  generalize lookN x cn nm true=L at w2 ⊢
  generalize calledB x nm ar.length=cc at w3 ⊢
  generalize atC x nm=ao at hlk ⊢
  generalize hR:(a && _)=R
  have hkk:k=1∨k=6∨k=5∨k=4∨(¬ k=1∧¬ k=6∧¬ k=5∧¬ k=4):=by omega
  clear hSf hl hst
  rcases hkk with rfl|rfl|rfl|rfl|⟨q1,q2,q3,q4⟩
  · have hyl:=hal
    cases ao<;>by_cases hd:d=selfT
    all_goals first
      |(subst hd;unfold selfT at *)
      | (have hdf : (d = selfT) = False := eq_false hd
         clear hd
         unfold selfT at *
         rcases(show ms=false∨(ms=true∧cb=false)∨(ms=true∧cb=true) by cases ms<;>cases cb<;>simp)with rfl|⟨rfl,rfl⟩|⟨rfl,rfl⟩<;>cases a)
    all_goals try simp only[Option.map_none,Option.map_some]at hlk
    all_goals try simp only[lkN,lkP,mthC,strsV,stsV]at w2
    all_goals(try simp[*]at hR)<;>(try subst hR)
    all_goals
      refine G_enter Tryz.func50 rfl Tryz.ntmps50 rfl fun Q hQ hQe=>?_
      (repeat'(first|refine Ctl ?_|((with_reducible refine Kof.use hK ?_);clear hK hE K E)|((with_reducible refine Eof.use hE ?_);(try clear hK hE K E))|((with_reducible refine Kof.use hKh ?_);clear hKh Kh)|((with_reducible refine Kof.use hKb (P_next ?_));clear hKb Kb)|(with_reducible first|refine G_plan 5 [] [0,1,2,3,4,5,6,7,8,9,10,11] hQe fun K E hK hE=>?_|refine G_plan 9 [([0,1,2,3,4,5,6,7,8,9,10,11,12,13,14,15],16,[[]])] [] hQe fun K E hK hE=>?_)|((with_reducible refine W_cond (fun h=>?_) (fun h=>?_))<;>(try(exfalso;first|assumption|omega)))|((first|(with_reducible first|refine G_region fun K E hK hE=>?_|refine call_ret can51 (w1 _ _) ?_|refine call_ret can52 (w2 _ z_sl z_sl) ?_|refine call_ret can53 (w3 _ z_sl z_sl) ?_|refine W_if ?_|refine W_ifS ?_|refine P_heads fun Kh hKh=>?_|refine P_fin fun Kh hKh=>?_|refine P_each fun Kb hKb=>?_|refine W_and ?_)|((with_reducible refine W_fresh (fun b hb=>?_));(repeat(obtain⟨_,hb⟩:=hb));(try(obtain⟨_,_⟩:=nef hb f2;obtain⟨_,_⟩:=nef hb f3;obtain⟨_,_⟩:=nef hb fp;obtain⟨_,_⟩:=nef hb fb)))|((with_reducible refine W_app (fun o2 ho=>?_));(try simp(disch:=assumption) only[disown_set,disown_own,ownok_o,ownok_m,List.length_map,List.length_cons,List.length_nil,Nat.zero_add,hlk,hal,hyl,Option.getD_some,Option.getD_none,Option.isSome_some,Option.isSome_none,beq_self_eq_true,if_true]at ho);(repeat(obtain⟨_,ho⟩:=ho)))|((with_reducible refine W_gd (fun h=>?_) (fun h=>?_))<;>(try(exfalso;first|assumption|omega))))<;>(try simp(disch:=first|assumption|omega) only[go_sem,seval,hlk,hal,hyl,Option.getD_some,Option.getD_none,Option.isSome_some,Option.isSome_none,beq_self_eq_true,if_true, *]))|((with_reducible refine W_appF ?_ (fun b hb=>?_))<;>(try((repeat(obtain⟨_,hb⟩:=hb));obtain⟨_,_⟩:=nef hb f2;obtain⟨_,_⟩:=nef hb f3;obtain⟨_,_⟩:=nef hb fp;obtain⟨_,_⟩:=nef hb fb))<;>(try simp(disch:=first|assumption|omega) only[go_sem,seval,hal, *]))))
    all_goals(first|refine W_ret res50 hQ ?_|refine W_norm res50 hQ ?_|refine G_pan hQ ?_)
    all_goals(refine⟨_,_,Wk.of_eq ?_,?_,rfl,rfl⟩)
    all_goals first|rfl|(exact z_fg)|trace_state
  · have hyl:=hal
    rcases L with _|⟨yn,⟨ys,ynm,yp,yb⟩⟩<;>by_cases hd:d=selfT
    all_goals first
      |(subst hd;unfold selfT at *)
      | (have hdf : (d = selfT) = False := eq_false hd
         clear hd
         unfold selfT at *
         rcases(show ms=false∨(ms=true∧cb=false)∨(ms=true∧cb=true) by cases ms<;>cases cb<;>simp)with rfl|⟨rfl,rfl⟩|⟨rfl,rfl⟩<;>cases a)
    all_goals try simp only[Option.map_none,Option.map_some]at hlk
    all_goals try simp only[lkN,lkP,mthC,strsV,stsV]at w2
    all_goals(try simp[*]at hR)<;>(try subst hR)
    all_goals
      refine G_enter Tryz.func50 rfl Tryz.ntmps50 rfl fun Q hQ hQe=>?_
      (repeat'(first|refine Ctl ?_|((with_reducible refine Kof.use hK ?_);clear hK hE K E)|((with_reducible refine Eof.use hE ?_);(try clear hK hE K E))|((with_reducible refine Kof.use hKh ?_);clear hKh Kh)|((with_reducible refine Kof.use hKb (P_next ?_));clear hKb Kb)|(with_reducible first|refine G_plan 5 [] [0,1,2,3,4,5,6,7,8,9,10,11] hQe fun K E hK hE=>?_|refine G_plan 9 [([0,1,2,3,4,5,6,7,8,9,10,11,12,13,14,15],16,[[]])] [] hQe fun K E hK hE=>?_)|((with_reducible refine W_cond (fun h=>?_) (fun h=>?_))<;>(try(exfalso;first|assumption|omega)))|((first|(with_reducible first|refine G_region fun K E hK hE=>?_|refine call_ret can51 (w1 _ _) ?_|refine call_ret can52 (w2 _ z_sl z_sl) ?_|refine call_ret can53 (w3 _ z_sl z_sl) ?_|refine W_if ?_|refine W_ifS ?_|refine P_heads fun Kh hKh=>?_|refine P_fin fun Kh hKh=>?_|refine P_each fun Kb hKb=>?_|refine W_and ?_)|((with_reducible refine W_fresh (fun b hb=>?_));(repeat(obtain⟨_,hb⟩:=hb));(try(obtain⟨_,_⟩:=nef hb f2;obtain⟨_,_⟩:=nef hb f3;obtain⟨_,_⟩:=nef hb fp;obtain⟨_,_⟩:=nef hb fb)))|((with_reducible refine W_app (fun o2 ho=>?_));(try simp(disch:=assumption) only[disown_set,disown_own,ownok_o,ownok_m,List.length_map,List.length_cons,List.length_nil,Nat.zero_add,hlk,hal,hyl,Option.getD_some,Option.getD_none,Option.isSome_some,Option.isSome_none,beq_self_eq_true,if_true]at ho);(repeat(obtain⟨_,ho⟩:=ho)))|((with_reducible refine W_gd (fun h=>?_) (fun h=>?_))<;>(try(exfalso;first|assumption|omega))))<;>(try simp(disch:=first|assumption|omega) only[go_sem,seval,hlk,hal,hyl,Option.getD_some,Option.getD_none,Option.isSome_some,Option.isSome_none,beq_self_eq_true,if_true, *]))|((with_reducible refine W_appF ?_ (fun b hb=>?_))<;>(try((repeat(obtain⟨_,hb⟩:=hb));obtain⟨_,_⟩:=nef hb f2;obtain⟨_,_⟩:=nef hb f3;obtain⟨_,_⟩:=nef hb fp;obtain⟨_,_⟩:=nef hb fb))<;>(try simp(disch:=first|assumption|omega) only[go_sem,seval,hal, *]))))
    all_goals(first|refine W_ret res50 hQ ?_|refine W_norm res50 hQ ?_|refine G_pan hQ ?_)
    all_goals(refine⟨_,_,Wk.of_eq ?_,?_,rfl,rfl⟩)
    all_goals first|rfl|(exact z_fg)|trace_state
  · have hyl:=hal
    skip<;>by_cases hd:d=selfT
    all_goals first
      |(subst hd;unfold selfT at *)
      | (have hdf : (d = selfT) = False := eq_false hd
         clear hd
         unfold selfT at *
         rcases(show ms=false∨(ms=true∧cb=false)∨(ms=true∧cb=true) by cases ms<;>cases cb<;>simp)with rfl|⟨rfl,rfl⟩|⟨rfl,rfl⟩<;>cases a)
    all_goals try simp only[Option.map_none,Option.map_some]at hlk
    all_goals try simp only[lkN,lkP,mthC,strsV,stsV]at w2
    all_goals(try simp[*]at hR)<;>(try subst hR)
    all_goals
      refine G_enter Tryz.func50 rfl Tryz.ntmps50 rfl fun Q hQ hQe=>?_
      (repeat'(first|refine Ctl ?_|((with_reducible refine Kof.use hK ?_);clear hK hE K E)|((with_reducible refine Eof.use hE ?_);(try clear hK hE K E))|((with_reducible refine Kof.use hKh ?_);clear hKh Kh)|((with_reducible refine Kof.use hKb (P_next ?_));clear hKb Kb)|(with_reducible first|refine G_plan 5 [] [0,1,2,3,4,5,6,7,8,9,10,11] hQe fun K E hK hE=>?_|refine G_plan 9 [([0,1,2,3,4,5,6,7,8,9,10,11,12,13,14,15],16,[[]])] [] hQe fun K E hK hE=>?_)|((with_reducible refine W_cond (fun h=>?_) (fun h=>?_))<;>(try(exfalso;first|assumption|omega)))|((first|(with_reducible first|refine G_region fun K E hK hE=>?_|refine call_ret can51 (w1 _ _) ?_|refine call_ret can52 (w2 _ z_sl z_sl) ?_|refine call_ret can53 (w3 _ z_sl z_sl) ?_|refine W_if ?_|refine W_ifS ?_|refine P_heads fun Kh hKh=>?_|refine P_fin fun Kh hKh=>?_|refine P_each fun Kb hKb=>?_|refine W_and ?_)|((with_reducible refine W_fresh (fun b hb=>?_));(repeat(obtain⟨_,hb⟩:=hb));(try(obtain⟨_,_⟩:=nef hb f2;obtain⟨_,_⟩:=nef hb f3;obtain⟨_,_⟩:=nef hb fp;obtain⟨_,_⟩:=nef hb fb)))|((with_reducible refine W_app (fun o2 ho=>?_));(try simp(disch:=assumption) only[disown_set,disown_own,ownok_o,ownok_m,List.length_map,List.length_cons,List.length_nil,Nat.zero_add,hlk,hal,hyl,Option.getD_some,Option.getD_none,Option.isSome_some,Option.isSome_none,beq_self_eq_true,if_true]at ho);(repeat(obtain⟨_,ho⟩:=ho)))|((with_reducible refine W_gd (fun h=>?_) (fun h=>?_))<;>(try(exfalso;first|assumption|omega))))<;>(try simp(disch:=first|assumption|omega) only[go_sem,seval,hlk,hal,hyl,Option.getD_some,Option.getD_none,Option.isSome_some,Option.isSome_none,beq_self_eq_true,if_true, *]))|((with_reducible refine W_appF ?_ (fun b hb=>?_))<;>(try((repeat(obtain⟨_,hb⟩:=hb));obtain⟨_,_⟩:=nef hb f2;obtain⟨_,_⟩:=nef hb f3;obtain⟨_,_⟩:=nef hb fp;obtain⟨_,_⟩:=nef hb fb))<;>(try simp(disch:=first|assumption|omega) only[go_sem,seval,hal, *]))))
    all_goals(first|refine W_ret res50 hQ ?_|refine W_norm res50 hQ ?_|refine G_pan hQ ?_)
    all_goals(refine⟨_,_,Wk.of_eq ?_,?_,rfl,rfl⟩)
    all_goals first|rfl|(exact z_fg)|trace_state
  · have hyl:=hal
    skip<;>by_cases hd:d=selfT
    all_goals first
      |(subst hd;unfold selfT at *;rcases(show ms=false∨(ms=true∧cb=false)∨(ms=true∧cb=true) by cases ms<;>cases cb<;>simp)with rfl|⟨rfl,rfl⟩|⟨rfl,rfl⟩<;>cases a)
      | (have hdf : (d = selfT) = False := eq_false hd
         clear hd
         unfold selfT at *
         rcases(show ms=false∨(ms=true∧cb=false)∨(ms=true∧cb=true) by cases ms<;>cases cb<;>simp)with rfl|⟨rfl,rfl⟩|⟨rfl,rfl⟩<;>cases a)
    all_goals try simp only[Option.map_none,Option.map_some]at hlk
    all_goals try simp only[lkN,lkP,mthC,strsV,stsV]at w2
    all_goals(try simp[*]at hR)<;>(try subst hR)
    all_goals
      refine G_enter Tryz.func50 rfl Tryz.ntmps50 rfl fun Q hQ hQe=>?_
      (repeat'(first|refine Ctl ?_|((with_reducible refine Kof.use hK ?_);clear hK hE K E)|((with_reducible refine Eof.use hE ?_);(try clear hK hE K E))|((with_reducible refine Kof.use hKh ?_);clear hKh Kh)|((with_reducible refine Kof.use hKb (P_next ?_));clear hKb Kb)|(with_reducible first|refine G_plan 5 [] [0,1,2,3,4,5,6,7,8,9,10,11] hQe fun K E hK hE=>?_|refine G_plan 9 [([0,1,2,3,4,5,6,7,8,9,10,11,12,13,14,15],16,[[]])] [] hQe fun K E hK hE=>?_)|((with_reducible refine W_cond (fun h=>?_) (fun h=>?_))<;>(try(exfalso;first|assumption|omega)))|((first|(with_reducible first|refine G_region fun K E hK hE=>?_|refine call_ret can51 (w1 _ _) ?_|refine call_ret can52 (w2 _ z_sl z_sl) ?_|refine call_ret can53 (w3 _ z_sl z_sl) ?_|refine W_if ?_|refine W_ifS ?_|refine P_heads fun Kh hKh=>?_|refine P_fin fun Kh hKh=>?_|refine P_each fun Kb hKb=>?_|refine W_and ?_)|((with_reducible refine W_fresh (fun b hb=>?_));(repeat(obtain⟨_,hb⟩:=hb));(try(obtain⟨_,_⟩:=nef hb f2;obtain⟨_,_⟩:=nef hb f3;obtain⟨_,_⟩:=nef hb fp;obtain⟨_,_⟩:=nef hb fb)))|((with_reducible refine W_app (fun o2 ho=>?_));(try simp(disch:=assumption) only[disown_set,disown_own,ownok_o,ownok_m,List.length_map,List.length_cons,List.length_nil,Nat.zero_add,hlk,hal,hyl,Option.getD_some,Option.getD_none,Option.isSome_some,Option.isSome_none,beq_self_eq_true,if_true]at ho);(repeat(obtain⟨_,ho⟩:=ho)))|((with_reducible refine W_gd (fun h=>?_) (fun h=>?_))<;>(try(exfalso;first|assumption|omega))))<;>(try simp(disch:=first|assumption|omega) only[go_sem,seval,hlk,hal,hyl,Option.getD_some,Option.getD_none,Option.isSome_some,Option.isSome_none,beq_self_eq_true,if_true, *]))|((with_reducible refine W_appF ?_ (fun b hb=>?_))<;>(try((repeat(obtain⟨_,hb⟩:=hb));obtain⟨_,_⟩:=nef hb f2;obtain⟨_,_⟩:=nef hb f3;obtain⟨_,_⟩:=nef hb fp;obtain⟨_,_⟩:=nef hb fb))<;>(try simp(disch:=first|assumption|omega) only[go_sem,seval,hal, *]))))
    all_goals(first|refine W_ret res50 hQ ?_|refine W_norm res50 hQ ?_|refine G_pan hQ ?_)
    all_goals(refine⟨_,_,Wk.of_eq ?_,?_,rfl,rfl⟩)
    all_goals first|rfl|(exact z_fg)|trace_state
  · have hyl:=hal
    skip<;>by_cases hd:d=selfT
    all_goals first
      |(subst hd;unfold selfT at *)
      | (have hdf : (d = selfT) = False := eq_false hd
         clear hd
         unfold selfT at *
         rcases(show ms=false∨(ms=true∧cb=false)∨(ms=true∧cb=true) by cases ms<;>cases cb<;>simp)with rfl|⟨rfl,rfl⟩|⟨rfl,rfl⟩<;>cases a)
    all_goals try simp only[Option.map_none,Option.map_some]at hlk
    all_goals try simp only[lkN,lkP,mthC,strsV,stsV]at w2
    all_goals(try simp[*]at hR)<;>(try subst hR)
    all_goals
      refine G_enter Tryz.func50 rfl Tryz.ntmps50 rfl fun Q hQ hQe=>?_
      (repeat'(first|refine Ctl ?_|((with_reducible refine Kof.use hK ?_);clear hK hE K E)|((with_reducible refine Eof.use hE ?_);(try clear hK hE K E))|((with_reducible refine Kof.use hKh ?_);clear hKh Kh)|((with_reducible refine Kof.use hKb (P_next ?_));clear hKb Kb)|(with_reducible first|refine G_plan 5 [] [0,1,2,3,4,5,6,7,8,9,10,11] hQe fun K E hK hE=>?_|refine G_plan 9 [([0,1,2,3,4,5,6,7,8,9,10,11,12,13,14,15],16,[[]])] [] hQe fun K E hK hE=>?_)|((with_reducible refine W_cond (fun h=>?_) (fun h=>?_))<;>(try(exfalso;first|assumption|omega)))|((first|(with_reducible first|refine G_region fun K E hK hE=>?_|refine call_ret can51 (w1 _ _) ?_|refine call_ret can52 (w2 _ z_sl z_sl) ?_|refine call_ret can53 (w3 _ z_sl z_sl) ?_|refine W_if ?_|refine W_ifS ?_|refine P_heads fun Kh hKh=>?_|refine P_fin fun Kh hKh=>?_|refine P_each fun Kb hKb=>?_|refine W_and ?_)|((with_reducible refine W_fresh (fun b hb=>?_));(repeat(obtain⟨_,hb⟩:=hb));(try(obtain⟨_,_⟩:=nef hb f2;obtain⟨_,_⟩:=nef hb f3;obtain⟨_,_⟩:=nef hb fp;obtain⟨_,_⟩:=nef hb fb)))|((with_reducible refine W_app (fun o2 ho=>?_));(try simp(disch:=assumption) only[disown_set,disown_own,ownok_o,ownok_m,List.length_map,List.length_cons,List.length_nil,Nat.zero_add,hlk,hal,hyl,Option.getD_some,Option.getD_none,Option.isSome_some,Option.isSome_none,beq_self_eq_true,if_true]at ho);(repeat(obtain⟨_,ho⟩:=ho)))|((with_reducible refine W_gd (fun h=>?_) (fun h=>?_))<;>(try(exfalso;first|assumption|omega))))<;>(try simp(disch:=first|assumption|omega) only[go_sem,seval,hlk,hal,hyl,Option.getD_some,Option.getD_none,Option.isSome_some,Option.isSome_none,beq_self_eq_true,if_true, *]))|((with_reducible refine W_appF ?_ (fun b hb=>?_))<;>(try((repeat(obtain⟨_,hb⟩:=hb));obtain⟨_,_⟩:=nef hb f2;obtain⟨_,_⟩:=nef hb f3;obtain⟨_,_⟩:=nef hb fp;obtain⟨_,_⟩:=nef hb fb))<;>(try simp(disch:=first|assumption|omega) only[go_sem,seval,hal, *]))))
    all_goals(first|refine W_ret res50 hQ ?_|refine W_norm res50 hQ ?_|refine G_pan hQ ?_)
    all_goals(refine⟨_,_,Wk.of_eq ?_,?_,rfl,rfl⟩)
    all_goals first|rfl|(exact z_fg)|trace_state
end Go.Proofs.YtadbggfpnhkmbaaGreat
namespace Go.Proofs.YtadbggfpnhkmbaaGreat
open Go.RowKit
attribute [local go_sem] p_enil1 p_enil2 p_nilE one_nil
def argOk:Stm→Prop
 |.mk _ _ _ _ _ ar _ _=>ar.length≤100000
def bdF (x:List Cls)(st:Bool)(a:Bool)(s:Stm):Bool:=a && stmR x st s
theorem bdF_all {x:List Cls}{st:Bool}:∀(l:List Stm) (a:Bool),l.foldl (bdF x st) a=(a && l.all (stmR x st))
 |[],a=>by simp
 |s::l,a=>by simp only[List.foldl_cons,List.all_cons];rw[bdF_all l];simp[bdF,Bool.and_assoc]
structure BdAt (t:St) (p bm b2 b3 b5:Nat) (x:List Cls) (m:Mth):Prop where
 src:SrcAt t p bm x
 h2:t b2=.obj 76 [.ptr p 0]
 h3:t b3=.obj 25 (mthC m)
 h5:t b5=.free
theorem Cbdeach (p bm b2 b3 b5:Nat)(x:List Cls)(m:Mth)(hx:x.length≤100000)(hl:∀c,c∈x→c.mths.length≤100000)(hst:∀i,i<x.length→startN x i≤100000) :
  EachOk 50 [.ptr b3 0,.ptr b5 0,.ptr b2 0] (fun t=>BdAt t p bm b2 b3 b5 x m) (fun(a:Bool) t=>t.set b5 (.obj 4 [.bool a])) (bdF x m.stat) argOk (fun _ _=>True):=by
 have key:∀(t:St) (a:Bool) (b:Nat),(t.set b5 (.obj 4 [.bool a])) b=.free→¬ b=b5∧t b=.free:=fun t a b hb=>by
  by_cases e:b=b5
  ·subst e;rw[St.set_same]at hb;cases hb
  ·rw[St.set_other _ _ e]at hb;exact⟨e,hb⟩
 refine⟨fun t a b c hB hb=>?_,fun t a b c hB hb=>?_,fun t a a' b hB hb=>?_,fun _ _ _ _ _=>trivial,fun _ _ _=>trivial,fun t a s k hB hg _=>?_⟩
 ·obtain⟨e,hb⟩:=key t a b hb
  have hf:∀b',t b'≠.free→(t.set b c) b'=t b':=fun b' h=>St.set_other _ _ (nef hb h).1
  exact⟨hB.src.fg (Fg.of_set _ hb),(hf _ (by rw[hB.h2];simp)).trans hB.h2,(hf _ (by rw[hB.h3];simp)).trans hB.h3,(St.set_other _ _ (fun h=>e h.symm)).trans hB.h5⟩
 ·obtain⟨e,hb⟩:=key t a b hb
  exact set_comm' e
 ·obtain⟨e,hb⟩:=key t a b hb
  rw[St.set_other _ _ e];exact hb
 ·obtain⟨k',d,sr,cn,nm,ar,o,t2⟩:=s
  exact Cbd1_S t p bm b2 b3 b5 x m hB.src hB.h2 hB.h3 hB.h5 hx hl hst a k' d sr cn nm ar o t2 hg
theorem Cbdall_S (p bm:Nat)(x:List Cls)(m:Mth)(hx:x.length≤100000)(hl:∀c,c∈x→c.mths.length≤100000)(hst:∀i,i<x.length→startN x i≤100000)(hb:LOk argOk m.body)
  (B:St) (b2 b3 b5:Nat) (hS1:B p=.obj 104 [.lst (x.map clsC) .no,.mp bm,.lst (stL x x.length) .no]) (hS2:B bm=.map (mpV encI (atA16 x)))
  (h2:B b2=.obj 76 [.ptr p 0]) (h3:B b3=.obj 25 (mthC m)) (h5:B b5=.free) :
  SRet Tryz.prog 16 [.lst (stsC m.body) .no,.fn 50 [.ptr b3 0,.ptr b5 0,.ptr b2 0]] (B.set b5 (.obj 4 [.bool true])) (.tup []) (B.set b5 (.obj 4 [.bool (bodyR x m)])):=by
 have h:=Ceach_S 50 [.ptr b3 0,.ptr b5 0,.ptr b2 0] _ _ _ _ _ can50 (Cbdeach p bm b2 b3 b5 x m hx hl hst) (szL m.body+1) m.body (Nat.lt_succ_self _) hb B true ⟨⟨hS1,hS2⟩,h2,h3,h5⟩ trivial
 simp only[bdF_all,Bool.true_and]at h
 exact h
set_option maxHeartbeats 4000000 in
theorem Cbody_S (t:St)(p bm:Nat)(x:List Cls)(m:Mth)(hS:SrcAt t p bm x)(hx:x.length≤100000)(hl:∀c,c∈x→c.mths.length≤100000)(hst:∀i,i<x.length→startN x i≤100000)(hb:LOk argOk m.body) :
  SRet Tryz.prog 31 [.ptr p 0,.agg (mthC m)] t (.bool (bodyR x m)) t:=by
 have w1:=Cbdall_S p bm x m hx hl hst hb
 obtain⟨h1,h2⟩:=hS
 have hpf:t p≠.free:=by rw[h1];simp
 have hbf:t bm≠.free:=by rw[h2];simp
 generalize bodyR x m=R at w1 ⊢
 clear hl hst hb
 obtain⟨ms,mn,mp,mb⟩:=m
 simp only[mthC,strsV,stsV]at w1 ⊢
 refine G_enter Tryz.func31 rfl Tryz.ntmps31 rfl fun Q hQ hQe=>?_
 (repeat'(first|refine Ctl ?_|((with_reducible refine Kof.use hK ?_);clear hK hE K E)|((with_reducible refine Eof.use hE ?_);(try clear hK hE K E))|((with_reducible refine W_cond (fun h=>?_) (fun h=>?_))<;>(try(exfalso;first|assumption|omega)))|((first|(with_reducible first|refine G_region fun K E hK hE=>?_|refine call_ret can16 (w1 _ _ _ _ z_sl z_sl z_sl z_sl z_sl) ?_|refine W_if ?_|refine W_ifS ?_|refine W_and ?_)|((with_reducible refine W_fresh (fun b hb=>?_));(repeat(obtain⟨_,hb⟩:=hb));(try(obtain⟨_,_⟩:=nef hb hpf;obtain⟨_,_⟩:=nef hb hbf))))<;>(try simp(disch:=first|assumption|omega) only[go_sem,seval, *]))))
 all_goals(first|refine W_ret res31 hQ ?_|refine W_norm res31 hQ ?_|refine G_pan hQ ?_)
 all_goals(refine⟨_,_,Wk.of_eq ?_,?_,rfl,rfl⟩)
 all_goals first|rfl|(exact z_fg)|trace_state
end Go.Proofs.YtadbggfpnhkmbaaGreat
namespace Go.Proofs.YtadbggfpnhkmbaaGreat
open Go.RowKit
def SOk (y:Stm):Prop:=argOk y∧(subs y).1.length≤100000∧(subs y).2.length≤100000
mutual
theorem okS_all:∀(x:Stm) (dp:Nat),okS x dp=true→totS x≤1024→∀y,y∈preS x→SOk y
 |.mk k d s c m ar o t,dp,hk,ht,y,hy=>by
  simp only[okS,Bool.and_eq_true]at hk
  obtain⟨hm,hk⟩:=hk
  have ha:=(may_args hm).1
  simp only[totS]at ht
  have l1:=totL_len o
  have l2:=totL_len t
  simp only[preS,List.mem_cons,List.mem_append]at hy
  by_cases h8:k=8
  ·subst h8
   simp only[if_true,Bool.and_eq_true]at hk ht
   rcases hy with rfl|hy|hy
   ·exact⟨show ar.length≤100000 by omega,show o.length≤100000 by omega,show t.length≤100000 by omega⟩
   ·exact okL_all o _ hk.1.2 (by omega) y hy
   ·exact okL_all t _ hk.2 (by omega) y hy
  ·by_cases h9:k=9
   ·subst h9
    simp only[show ¬ (9:Int)=8 by decide,if_false,if_true,Bool.and_eq_true]at hk ht
    have htn:t=[]:=by
     unfold mayB at hm
     simp only[show ¬ (9:Int)=8 by decide,if_false,if_true,Bool.and_eq_true,List.isEmpty_iff]at hm
     exact hm.2
    subst htn
    rcases hy with rfl|hy|hy
    ·exact⟨show ar.length≤100000 by omega,show o.length≤100000 by omega,show ([]:List Stm).length≤100000 by simp⟩
    ·exact okL_all o _ hk.2 (by omega) y hy
    ·cases hy
   ·have hon:o=[]∧t=[]:=by
     unfold mayB at hm
     simp only[h8,h9,if_false,Bool.and_eq_true,List.isEmpty_iff]at hm
     exact⟨hm.1.1.1,hm.1.1.2⟩
    obtain⟨rfl,rfl⟩:=hon
    rcases hy with rfl|hy|hy
    ·exact⟨show ar.length≤100000 by omega,show ([]:List Stm).length≤100000 by simp,show ([]:List Stm).length≤100000 by simp⟩
    ·cases hy
    ·cases hy
theorem okL_all:∀(l:List Stm) (dp:Nat),okA l dp=true→totL l≤1024→∀y,y∈preL l→SOk y
 |[],_,_,_,y,hy=>by cases hy
 |x::l,dp,hk,ht,y,hy=>by
  simp only[okA,Bool.and_eq_true]at hk
  simp only[totL]at ht
  simp only[preL,List.mem_append]at hy
  rcases hy with hy|hy
  ·exact okS_all x dp hk.1 (by omega) y hy
  ·exact okL_all l dp hk.2 (by omega) y hy
end
structure Bnd (x:List Cls):Prop where
 cls:x.length≤32
 mths:∀c,c∈x→c.mths.length≤32
 pars:∀c,c∈x→∀m,m∈c.mths→m.pars.length≤8
 body:∀c,c∈x→∀m,m∈c.mths→LOk argOk m.body
theorem Bnd.of {x:List Cls}(h:checkB x=true):Bnd x:=by
 unfold checkB at h
 simp only[Bool.and_eq_true,decide_eq_true_eq,List.all_eq_true]at h
 obtain⟨⟨h1,h2⟩,h3,h4⟩:=h
 refine⟨h1,fun c hc=>?_,fun c hc m hm=>?_,fun c hc m hm=>?_⟩
 ·have:=h2 c hc
  unfold headC at this
  simp only[Bool.and_eq_true,decide_eq_true_eq]at this
  exact this.1.2
 ·have:=h2 c hc
  unfold headC at this
  simp only[Bool.and_eq_true,decide_eq_true_eq,List.all_eq_true]at this
  have h5:=this.2 m hm
  unfold headM namesB at h5
  simp only[Bool.and_eq_true,decide_eq_true_eq]at h5
  exact h5.2.1
 ·have hmm:=allM_mem hc hm
  have ht:=totM_mem hmm
  have hl:=totL_len m.body
  exact⟨by omega,okL_all m.body 1 (h3 m hmm) (by omega)⟩
theorem startN_le {x:List Cls}(h:Bnd x)(i:Nat)(hi:i<x.length):startN x i≤100000:=by
 unfold startN
 have:∀l:List Cls,(∀c,c∈l→c.mths.length≤32)→(l.map (·.mths.length)).sum≤32 * l.length:=by
  intro l
  induction l with
  |nil=>intro _;simp
  |cons c l ih=>
   intro hl
   have h1:=hl c (by simp)
   have h2:=ih fun c hc=>hl c (by simp[hc])
   simp only[List.map_cons,List.sum_cons,List.length_cons]
   omega
 have h2:=this (x.take i) fun c hc=>h.mths c (List.mem_of_mem_take hc)
 have h3:(x.take i).length≤x.length:=by simp;omega
 have:=h.cls
 omega
attribute [local go_sem] p_enil1 p_enil2 p_nilE one_nil
theorem Cread0_S (x:List Cls)(hx:SrcOk x)(h0:rdE x=0)(t:St):SCalls Tryz.prog 27 [srcV x] t fun w u=>∃a:Nat×Nat×St,w=.ret (.tup [.ptr a.1 0,.int .i64 0])∧u=a.2.2∧SrcAt a.2.2 a.1 a.2.1 x∧Fg a.2.2 t:=
 (Cread_S x hx t).mono fun w u h=>by
  obtain⟨p,bm,h1,h2,h3⟩:=h.2 h0
  exact⟨(p,bm,u),h1,rfl,h2,h3⟩
theorem Cread1_S (x:List Cls)(hx:SrcOk x)(h0:rdE x≠0)(t:St):SRet Tryz.prog 27 [srcV x] t (.tup [.raw (.pointer none),.int .i64 (rdE x)]) t:=
 (Cread_S x hx t).mono fun w u h=>h.1 h0
theorem rightE_rd {x:List Cls}(h:rdE x≠0):rightE x=rdE x:=by
 unfold rdE at h ⊢
 unfold rightE
 split
 ·rfl
 ·rename_i h1
  rw[if_neg h1]at h
  split
  ·rfl
  ·rename_i h2;rw[if_neg h2]at h;exact absurd rfl h
theorem rdE_0 {x:List Cls}(h:rdE x=0):checkB x=true∧(x.map (·.nm)).Nodup:=by
 unfold rdE at h
 split at h
 ·cases h
 ·rename_i h1
  split at h
  ·cases h
  ·rename_i h2;exact⟨by simpa using h1,by simpa using h2⟩
theorem upRun_r1 {x:List Cls}(n:List UInt8):(upRun x (fun(a:Unit) (_:Nat)=>(a,true)) (x.length+1) () n).2=(upN x n).2:=upRun_all _ _
theorem Cupr_S (x:List Cls)(p bm:Nat)(hx:x.length≤100000)(s:St)(h1:s p=.obj 104 [.lst (x.map clsC) .no,.mp bm,.lst (stL x x.length) .no])(h2:s bm=.map (mpV encI (atA16 x)))(n:List UInt8) :
  SRet Tryz.prog 28 [.ptr p 0,.str n,.fn 29 []] s (.bool (upN x n).2) s:=by
 have h:=Cup_S x p bm 29 [] (fun _=>s) (fun(a:Unit) (_:Nat)=>(a,true)) can29 (fun _=>⟨h1,h2⟩) (fun a i _=>Cr1_S i s) hx () n
 rw[upRun_r1]at h
 exact h
set_option maxHeartbeats 8000000 in
theorem Cright_S (x:List Cls)(hx:SrcOk x)(t:St):SCalls Tryz.prog 14 [srcV x] t fun w u=>
  (rightE x≠0→w=.ret (.tup [.raw (.pointer none),.int .i64 (rightE x)])∧u=t)∧(rightE x=0→∃p bm,w=.ret (.tup [.ptr p 0,.int .i64 0])∧SrcAt u p bm x∧Fg u t):=by
 by_cases h0:rdE x=0
 ·obtain⟨hB,hN⟩:=rdE_0 h0
  have hb:=Bnd.of hB
  have w0:=Cread0_S x hx h0
  have hxl:=hb.cls
  have hlen:(x.map clsC).length=x.length:=by simp
  have hre:rightE x=if (x.all fun c=>(upN x c.nm).2)=false then 160 else if x.all (mthsR x)=false then 160 else if mainR x=false then 160 else 0:=by
   unfold rightE;rw[if_neg (by rw[hB];simp),if_neg (by simpa using hN)]
  generalize rightE x=e at hre ⊢
  have HE:=Lib.hid hre
  have HB:=Lib.hid hb
  clear hre hb hB hN h0 hx
  simp only[srcV]at w0 ⊢
  refine G_enter Tryz.func14 rfl Tryz.ntmps14 rfl fun Q hQ hQe=>?_
  (repeat'(first|refine Ctl ?_|((with_reducible refine Kof.use hK ?_);clear hK hE K E)|((with_reducible refine Eof.use hE ?_);(try clear hK hE K E))|((with_reducible refine W_cond (fun h=>?_) (fun h=>?_))<;>(try(exfalso;first|assumption|omega)))|((first|(with_reducible first|refine G_region fun K E hK hE=>?_|refine W_if ?_|refine W_ifS ?_|refine W_and ?_)|((with_reducible refine call_ex can27 (w0 _) (fun a h=>?_));(obtain⟨p,bm,u⟩:=a;dsimp only at h ⊢;obtain⟨⟨k1,k2⟩,hFg⟩:=h;have hub:=((hFg b).resolve_left (by rw[St.set_same];simp)).symm;rw[St.set_same]at hub))|((with_reducible refine W_fresh (fun b hb=>?_));(repeat(obtain⟨_,hb⟩:=hb)))|((with_reducible refine W_gd (fun h=>?_) (fun h=>?_))<;>(try(exfalso;first|assumption|omega))))<;>(try simp(disch:=first|assumption|omega) only[go_sem,seval,hlen, *]))))
  have hFt:Fg u t:=hFg.trans (Fg.of_set _ hb)
  have hpf:u p≠.free:=by rw[k1];simp
  have hbf:u bm≠.free:=by rw[k2];simp
  have hif:u b≠.free:=by rw[hub];simp
  generalize b=bi at *
  refine G_loop (fun m env s'=>∃(i:Nat),i≤x.length∧m+i=x.length∧Hid (∀a c,a<i→x[a]?=some c→(upN x c.nm).2=true)∧u=s'∧env 1=.ptr bi 0∧env 4=.ptr p 0∧env 25=.lst (x.map clsC) .no∧env 26=.int .i64 x.length∧env 27=.int .i64 i) x.length ?_ ?_
  ·exact⟨_,Fg.refl _,0,by omega,by omega,Lib.hid (fun a c h=>absurd h (Nat.not_lt_zero _)),rfl,z_sl,z_sl,z_sl,z_sl,z_sl⟩
  rintro m env s' ⟨i,hi,hm,HI,rfl,e1,e4,e25,e26,e27⟩
  by_cases hlt:i<x.length
  ·obtain⟨c,hc⟩:=uget hlt
   have hsx:=clsC_at hc
   have hcm:=List.mem_of_getElem? hc
   have w1:=fun s h1 h2=>Cupr_S x p bm (by omega) s h1 h2 c.nm
   cases hup:(upN x c.nm).2 with
   |false=>
    rw[hup]at w1
    have hE:=HE.out
    rw[if_pos (by rw[List.all_eq_false];exact⟨c,hcm,by rw[hup];simp⟩)]at hE
    subst hE
    clear HI hup hcm hc w0
    obtain⟨cn,cp,cm⟩:=c
    simp only at w1
    (repeat'(first|refine Ctl ?_|((with_reducible refine Kof.use hK ?_);clear hK hE K E)|((with_reducible refine Eof.use hE ?_);(try clear hK hE K E))|((with_reducible refine W_cond (fun h=>?_) (fun h=>?_))<;>(try(exfalso;first|assumption|omega)))|((first|(with_reducible first|refine G_region fun K E hK hE=>?_|refine call_ret can28 (w1 _ z_sl z_sl) ?_|refine W_if ?_|refine W_ifS ?_|refine W_and ?_)|((with_reducible refine W_fresh (fun b hb=>?_));(repeat(obtain⟨_,hb⟩:=hb));(try(obtain⟨_,_⟩:=nef hb hpf;obtain⟨_,_⟩:=nef hb hbf;obtain⟨_,_⟩:=nef hb hif)))|((with_reducible refine W_gd (fun h=>?_) (fun h=>?_))<;>(try(exfalso;first|assumption|omega))))<;>(try simp(disch:=first|assumption|omega) only[go_sem,seval,hlen,hsx,clsC, *]))))
    all_goals(first|refine W_ret res14 hQ ?_|refine W_norm res14 hQ ?_|refine G_pan hQ ?_)
    all_goals exact⟨_,_,Wk.refl _,Fg.setA hFt (hFt.free hb),fun _=>⟨rfl,rfl⟩,fun h=>absurd h (by decide)⟩
   |true=>
    rw[hup]at w1
    have HI2:Hid (∀a c,a<i+1→x[a]?=some c→(upN x c.nm).2=true):=Lib.hid fun a c' ha hg=>by
     by_cases e:a=i
     ·subst e;rw[hc]at hg;injection hg with hg;subst hg;exact hup
     ·exact HI.out a c' (by omega) hg
    clear HI hup hcm hc w0
    obtain⟨cn,cp,cm⟩:=c
    simp only at w1
    (repeat'(first|refine Ctl ?_|((with_reducible refine Kof.use hK ?_);clear hK hE K E)|((with_reducible refine Eof.use hE ?_);(try clear hK hE K E))|((with_reducible refine W_cond (fun h=>?_) (fun h=>?_))<;>(try(exfalso;first|assumption|omega)))|((first|(with_reducible first|refine G_region fun K E hK hE=>?_|refine call_ret can28 (w1 _ z_sl z_sl) ?_|refine W_if ?_|refine W_ifS ?_|refine W_and ?_)|((with_reducible refine W_fresh (fun b hb=>?_));(repeat(obtain⟨_,hb⟩:=hb));(try(obtain⟨_,_⟩:=nef hb hpf;obtain⟨_,_⟩:=nef hb hbf;obtain⟨_,_⟩:=nef hb hif)))|((with_reducible refine W_gd (fun h=>?_) (fun h=>?_))<;>(try(exfalso;first|assumption|omega))))<;>(try simp(disch:=first|assumption|omega) only[go_sem,seval,hlen,hsx,clsC, *]))))
    all_goals exact⟨u,Fg.of_set _ hb,m - 1,by omega,i+1,by omega,by omega,HI2,rfl,z_sl,z_sl,z_sl,z_sl,z_sl⟩
  ·have hE:=HE.out
   have hI:=HI.out
   rw[if_neg (by
    have:(x.all fun c=>(upN x c.nm).2)=true:=List.all_eq_true.2 fun c hc=>by
     obtain⟨a,ha,hg⟩:=List.getElem_of_mem hc
     exact hI a c (by omega) (by rw[List.getElem?_eq_getElem ha,hg])
    rw[this];simp)]at hE
   have HE:=Lib.hid hE
   clear hE hI HI w0
   (repeat'(first|refine Ctl ?_|((with_reducible refine Kof.use hK ?_);clear hK hE K E)|((with_reducible refine Eof.use hE ?_);(try clear hK hE K E))|((with_reducible refine W_cond (fun h=>?_) (fun h=>?_))<;>(try(exfalso;first|assumption|omega)))|((first|(with_reducible first|refine G_region fun K E hK hE=>?_|refine W_if ?_|refine W_ifS ?_|refine W_and ?_)|((with_reducible refine W_fresh (fun b hb=>?_));(repeat(obtain⟨_,hb⟩:=hb)))|((with_reducible refine W_gd (fun h=>?_) (fun h=>?_))<;>(try(exfalso;first|assumption|omega))))<;>(try simp(disch:=first|assumption|omega) only[go_sem,seval,hlen, *]))))
   clear hm hi hlt i m e25 e26 e27
   refine G_loop (fun m env s'=>∃(i:Nat),i≤x.length∧m+i=x.length∧Hid (∀a c,a<i→x[a]?=some c→mthsR x c=true)∧u=s'∧env 1=.ptr bi 0∧env 4=.ptr p 0∧env 38=.lst (x.map clsC) .no∧env 39=.int .i64 x.length∧env 40=.int .i64 i) x.length ?_ ?_
   ·exact⟨_,Fg.refl _,0,by omega,by omega,Lib.hid (fun a c h=>absurd h (Nat.not_lt_zero _)),rfl,z_sl,z_sl,z_sl,z_sl,z_sl⟩
   rintro m env s' ⟨i,hi,hm,HI,rfl,e1,e4,e38,e39,e40⟩
   by_cases hlt:i<x.length
   ·obtain⟨c,hc⟩:=uget hlt
    have hsx:=clsC_at hc
    have hcm:=List.mem_of_getElem? hc
    have hml:(c.mths.map mthC).length=c.mths.length:=by simp
    have hcl:=HB.out.mths c hcm
    have W1:=Lib.hid (fun s h1 h2 (j:Nat) mt hj=>Chead_S s p bm i j x c mt ⟨h1,h2⟩ hc hj (by omega) (fun c hc=>by have:=HB.out.mths c hc;omega) (by have:=HB.out.pars c hcm mt (List.mem_of_getElem? hj);omega))
    have W2:=Lib.hid (fun s h1 h2 (j:Nat) mt (hj:c.mths[j]?=some mt)=>Cbody_S s p bm x mt ⟨h1,h2⟩ (by omega) (fun c hc=>by have:=HB.out.mths c hc;omega) (startN_le HB.out) (HB.out.body c hcm mt (List.mem_of_getElem? hj)))
    obtain⟨cn,cp,cm⟩:=c
    simp only at hml hcl
    (repeat'(first|refine Ctl ?_|((with_reducible refine Kof.use hK ?_);clear hK hE K E)|((with_reducible refine Eof.use hE ?_);(try clear hK hE K E))|((with_reducible refine W_cond (fun h=>?_) (fun h=>?_))<;>(try(exfalso;first|assumption|omega)))|((first|(with_reducible first|refine G_region fun K E hK hE=>?_|refine W_if ?_|refine W_ifS ?_|refine W_and ?_)|((with_reducible refine W_fresh (fun b hb=>?_));(repeat(obtain⟨_,hb⟩:=hb));(try(obtain⟨_,_⟩:=nef hb hpf;obtain⟨_,_⟩:=nef hb hbf;obtain⟨_,_⟩:=nef hb hif)))|((with_reducible refine W_gd (fun h=>?_) (fun h=>?_))<;>(try(exfalso;first|assumption|omega))))<;>(try simp(disch:=first|assumption|omega) only[go_sem,seval,hlen,hsx,clsC,hml, *]))))
    refine G_loop (fun m2 env s'=>∃(j:Nat),j≤cm.length∧m2+j=cm.length∧Hid (∀a mt,a<j→cm[a]?=some mt→(hdOk x ⟨cn,cp,cm⟩ a mt && bodyR x mt)=true)∧u=s'∧env 1=.ptr bi 0∧env 4=.ptr p 0∧env 8=.int .i64 i∧env 38=.lst (x.map clsC) .no∧env 39=.int .i64 x.length∧env 40=.int .i64 i
      ∧ env 46=.lst (cm.map mthC) .no∧env 47=.int .i64 cm.length∧env 48=.int .i64 j) cm.length ?_ ?_
    ·exact⟨u,Fg.of_set _ (by assumption),0,by omega,by omega,Lib.hid (fun a c h=>absurd h (Nat.not_lt_zero _)),rfl,z_sl,z_sl,z_sl,z_sl,z_sl,z_sl,z_sl,z_sl,z_sl⟩
    rintro m2 env s' ⟨j,hj,hm2,HJ,rfl,e1,e4,e8,e38,e39,e40,e46,e47,e48⟩
    by_cases hjt:j<cm.length
    ·obtain⟨mt,hmt⟩:=uget hjt
     have hsm:=mthC_at16 hmt
     have w1:=fun s h1 h2=>W1.out s h1 h2 j mt hmt
     have w2:=fun s h1 h2=>W2.out s h1 h2 j mt hmt
     cases hok:(hdOk x ⟨cn,cp,cm⟩ j mt && bodyR x mt)with
     |false=>
      have hE:=HE.out
      rw[if_pos (by
       rw[List.all_eq_false]
       refine⟨_,hcm,?_⟩
       have:mthsR x ⟨cn,cp,cm⟩=false:=by
        unfold mthsR
        rw[List.all_eq_false]
        exact⟨j,List.mem_range.2 hjt,by simp only[hmt];rw[hok];simp⟩
       rw[this];simp)]at hE
      subst hE
      clear HI HJ hc hcm W1 W2 hmt HE HB
      cases hd:hdOk x ⟨cn,cp,cm⟩ j mt with
      |false=>
       rw[hd]at w1
       clear hd hok w2
       obtain⟨ms,mn,mp,mb⟩:=mt
       (repeat'(first|refine Ctl ?_|((with_reducible refine Kof.use hK ?_);clear hK hE K E)|((with_reducible refine Eof.use hE ?_);(try clear hK hE K E))|((with_reducible refine W_cond (fun h=>?_) (fun h=>?_))<;>(try(exfalso;first|assumption|omega)))|((first|(with_reducible first|refine G_region fun K E hK hE=>?_|refine call_ret can30 (w1 _ z_sl z_sl) ?_|refine W_if ?_|refine W_ifS ?_|refine W_and ?_)|((with_reducible refine W_fresh (fun b hb=>?_));(repeat(obtain⟨_,hb⟩:=hb));(try(obtain⟨_,_⟩:=nef hb hpf;obtain⟨_,_⟩:=nef hb hbf;obtain⟨_,_⟩:=nef hb hif)))|((with_reducible refine W_gd (fun h=>?_) (fun h=>?_))<;>(try(exfalso;first|assumption|omega))))<;>(try simp(disch:=first|assumption|omega) only[go_sem,seval,hml,hsm,mthC,strsV,stsV, *]))))
       all_goals(first|refine W_ret res14 hQ ?_|refine W_norm res14 hQ ?_|refine G_pan hQ ?_)
       all_goals exact⟨_,_,Wk.refl _,Fg.setA hFt (hFt.free hb),fun _=>⟨rfl,rfl⟩,fun h=>absurd h (by decide)⟩
      |true=>
       rw[hd,Bool.true_and]at hok
       rw[hd]at w1
       rw[hok]at w2
       clear hd hok
       obtain⟨ms,mn,mp,mb⟩:=mt
       simp only[mthC,strsV,stsV]at w2
       (repeat'(first|refine Ctl ?_|((with_reducible refine Kof.use hK ?_);clear hK hE K E)|((with_reducible refine Eof.use hE ?_);(try clear hK hE K E))|((with_reducible refine W_cond (fun h=>?_) (fun h=>?_))<;>(try(exfalso;first|assumption|omega)))|((first|(with_reducible first|refine G_region fun K E hK hE=>?_|refine call_ret can30 (w1 _ z_sl z_sl) ?_|refine call_ret can31 (w2 _ z_sl z_sl) ?_|refine W_if ?_|refine W_ifS ?_|refine W_and ?_)|((with_reducible refine W_fresh (fun b hb=>?_));(repeat(obtain⟨_,hb⟩:=hb));(try(obtain⟨_,_⟩:=nef hb hpf;obtain⟨_,_⟩:=nef hb hbf;obtain⟨_,_⟩:=nef hb hif)))|((with_reducible refine W_gd (fun h=>?_) (fun h=>?_))<;>(try(exfalso;first|assumption|omega))))<;>(try simp(disch:=first|assumption|omega) only[go_sem,seval,hml,hsm,mthC,strsV,stsV, *]))))
       all_goals(first|refine W_ret res14 hQ ?_|refine W_norm res14 hQ ?_|refine G_pan hQ ?_)
       all_goals exact⟨_,_,Wk.refl _,Fg.setA hFt (hFt.free hb),fun _=>⟨rfl,rfl⟩,fun h=>absurd h (by decide)⟩
     |true=>
      have hok2:=hok
      rw[Bool.and_eq_true]at hok2
      rw[hok2.1]at w1
      rw[hok2.2]at w2
      have HJ2:Hid (∀a mt,a<j+1→cm[a]?=some mt→(hdOk x ⟨cn,cp,cm⟩ a mt && bodyR x mt)=true):=Lib.hid fun a mt' ha hg=>by
       by_cases e:a=j
       ·subst e;rw[hmt]at hg;injection hg with hg;subst hg;exact hok
       ·exact HJ.out a mt' (by omega) hg
      have HC:=Lib.hid hc
      have HCM:=Lib.hid hcm
      clear HJ hok hok2 hmt hc hcm
      obtain⟨ms,mn,mp,mb⟩:=mt
      simp only[mthC,strsV,stsV]at w2
      (repeat'(first|refine Ctl ?_|((with_reducible refine Kof.use hK ?_);clear hK hE K E)|((with_reducible refine Eof.use hE ?_);(try clear hK hE K E))|((with_reducible refine W_cond (fun h=>?_) (fun h=>?_))<;>(try(exfalso;first|assumption|omega)))|((first|(with_reducible first|refine G_region fun K E hK hE=>?_|refine call_ret can30 (w1 _ z_sl z_sl) ?_|refine call_ret can31 (w2 _ z_sl z_sl) ?_|refine W_if ?_|refine W_ifS ?_|refine W_and ?_)|((with_reducible refine W_fresh (fun b hb=>?_));(repeat(obtain⟨_,hb⟩:=hb));(try(obtain⟨_,_⟩:=nef hb hpf;obtain⟨_,_⟩:=nef hb hbf;obtain⟨_,_⟩:=nef hb hif)))|((with_reducible refine W_gd (fun h=>?_) (fun h=>?_))<;>(try(exfalso;first|assumption|omega))))<;>(try simp(disch:=first|assumption|omega) only[go_sem,seval,hml,hsm,mthC,strsV,stsV, *]))))
      all_goals exact⟨u,Fg.of_set _ hb,m2 - 1,by omega,j+1,by omega,by omega,HJ2,rfl,z_sl,z_sl,z_sl,z_sl,z_sl,z_sl,z_sl,z_sl,z_sl⟩
    ·have HI2:Hid (∀a c,a<i+1→x[a]?=some c→mthsR x c=true):=Lib.hid fun a c' ha hg=>by
      by_cases e:a=i
      ·subst e;rw[hc]at hg;injection hg with hg;subst hg
       unfold mthsR
       rw[List.all_eq_true]
       intro a2 ha2
       cases hg2:cm[a2]? with
       |none=>rfl
       |some mt=>exact HJ.out a2 mt (by have:=(List.getElem?_eq_some_iff.1 hg2).1;omega) hg2
      ·exact HI.out a c' (by omega) hg
     clear HI HJ W1 W2 hc hcm
     (repeat'(first|refine Ctl ?_|((with_reducible refine Kof.use hK ?_);clear hK hE K E)|((with_reducible refine Eof.use hE ?_);(try clear hK hE K E))|((with_reducible refine W_cond (fun h=>?_) (fun h=>?_))<;>(try(exfalso;first|assumption|omega)))|((first|(with_reducible first|refine G_region fun K E hK hE=>?_|refine W_if ?_|refine W_ifS ?_|refine W_and ?_)|((with_reducible refine W_fresh (fun b hb=>?_));(repeat(obtain⟨_,hb⟩:=hb)))|((with_reducible refine W_gd (fun h=>?_) (fun h=>?_))<;>(try(exfalso;first|assumption|omega))))<;>(try simp(disch:=first|assumption|omega) only[go_sem,seval,hml, *]))))
     all_goals exact⟨u,Fg.refl _,m - 1,by omega,i+1,by omega,by omega,HI2,rfl,z_sl,z_sl,z_sl,z_sl,z_sl⟩
   ·have hE:=HE.out
    have hI:=HI.out
    rw[if_neg (by
     have:x.all (mthsR x)=true:=List.all_eq_true.2 fun c hc=>by
      obtain⟨a,ha,hg⟩:=List.getElem_of_mem hc
      exact hI a c (by omega) (by rw[List.getElem?_eq_getElem ha,hg])
     rw[this];simp)]at hE
    have HE:=Lib.hid hE
    clear hE hI HI
    have hlk:=atA16_lk (x:=x) [77,97,105,110]
    have hE:=HE.out
    clear HE
    unfold mainR at hE
    cases hat:atC x [77,97,105,110]with
    |none=>
     rw[hat]at hlk hE
     simp only[Option.map_none]at hlk
     simp only[if_true]at hE
     subst hE
     clear hat HB
     (repeat'(first|refine Ctl ?_|((with_reducible refine Kof.use hK ?_);clear hK hE K E)|((with_reducible refine Eof.use hE ?_);(try clear hK hE K E))|((with_reducible refine W_cond (fun h=>?_) (fun h=>?_))<;>(try(exfalso;first|assumption|omega)))|((first|(with_reducible first|refine G_region fun K E hK hE=>?_|refine W_if ?_|refine W_ifS ?_|refine W_and ?_)|((with_reducible refine W_fresh (fun b hb=>?_));(repeat(obtain⟨_,hb⟩:=hb)))|((with_reducible refine W_gd (fun h=>?_) (fun h=>?_))<;>(try(exfalso;first|assumption|omega))))<;>(try simp(disch:=first|assumption|omega) only[go_sem,seval,hlen,hlk,Option.getD_some,Option.getD_none,Option.isSome_some,Option.isSome_none, *]))))
     all_goals(first|refine W_ret res14 hQ ?_|refine W_norm res14 hQ ?_|refine G_pan hQ ?_)
     all_goals exact⟨_,_,Wk.refl _,hFt,fun _=>⟨rfl,rfl⟩,fun h=>absurd h (by decide)⟩
    |some k=>
     obtain⟨c,hc,_⟩:=atC_get hat
     have w1:=fun s h1 h2=>Cown_S s p bm k x c [109,97,105,110] ⟨h1,h2⟩ hc (by have:=HB.out.mths c (List.mem_of_getElem? hc);omega)
     rw[hat]at hlk hE
     simp only[Option.map_some]at hlk
     simp only[hc]at hE
     simp only[ownV_M]at w1
     clear hat hc HB
     cases ho:ownM c [109,97,105,110]with
     |none=>
      rw[ho]at w1 hE
      simp only[if_true]at w1 hE
      subst hE
      clear ho
      (repeat'(first|refine Ctl ?_|((with_reducible refine Kof.use hK ?_);clear hK hE K E)|((with_reducible refine Eof.use hE ?_);(try clear hK hE K E))|((with_reducible refine W_cond (fun h=>?_) (fun h=>?_))<;>(try(exfalso;first|assumption|omega)))|((first|(with_reducible first|refine G_region fun K E hK hE=>?_|refine call_ret can32 (w1 _ z_sl z_sl) ?_|refine W_if ?_|refine W_ifS ?_|refine W_and ?_)|((with_reducible refine W_fresh (fun b hb=>?_));(repeat(obtain⟨_,hb⟩:=hb)))|((with_reducible refine W_gd (fun h=>?_) (fun h=>?_))<;>(try(exfalso;first|assumption|omega))))<;>(try simp(disch:=first|assumption|omega) only[go_sem,seval,hlen,hlk,Option.getD_some,Option.getD_none,Option.isSome_some,Option.isSome_none, *]))))
      all_goals(first|refine W_ret res14 hQ ?_|refine W_norm res14 hQ ?_|refine G_pan hQ ?_)
      all_goals exact⟨_,_,Wk.refl _,hFt,fun _=>⟨rfl,rfl⟩,fun h=>absurd h (by decide)⟩
     |some mt=>
      rw[ho]at w1 hE
      simp only at w1 hE
      clear ho
      have hpl:(mt.pars.map strC).length=mt.pars.length:=by simp
      obtain⟨ms,mn,mp,mb⟩:=mt
      simp only[mthC,strsV,stsV]at w1 hE hpl
      cases ms
      ·simp only[Bool.false_and,if_true]at hE
       subst hE
       (repeat'(first|refine Ctl ?_|((with_reducible refine Kof.use hK ?_);clear hK hE K E)|((with_reducible refine Eof.use hE ?_);(try clear hK hE K E))|((with_reducible refine W_cond (fun h=>?_) (fun h=>?_))<;>(try(exfalso;first|assumption|omega)))|((first|(with_reducible first|refine G_region fun K E hK hE=>?_|refine call_ret can32 (w1 _ z_sl z_sl) ?_|refine W_if ?_|refine W_ifS ?_|refine W_and ?_)|((with_reducible refine W_fresh (fun b hb=>?_));(repeat(obtain⟨_,hb⟩:=hb)))|((with_reducible refine W_gd (fun h=>?_) (fun h=>?_))<;>(try(exfalso;first|assumption|omega))))<;>(try simp(disch:=first|assumption|omega) only[go_sem,seval,hlen,hpl,hlk,Option.getD_some,Option.getD_none,Option.isSome_some,Option.isSome_none, *]))))
       all_goals(first|refine W_ret res14 hQ ?_|refine W_norm res14 hQ ?_|refine G_pan hQ ?_)
       all_goals exact⟨_,_,Wk.refl _,hFt,fun _=>⟨rfl,rfl⟩,fun h=>absurd h (by decide)⟩
      ·have HE:=Lib.hid hE
       clear hE
       (repeat'(first|refine Ctl ?_|((with_reducible refine Kof.use hK ?_);clear hK hE K E)|((with_reducible refine Eof.use hE ?_);(try clear hK hE K E))|((with_reducible refine W_cond (fun h=>?_) (fun h=>?_))<;>(try(exfalso;first|assumption|omega)))|((first|(with_reducible first|refine G_region fun K E hK hE=>?_|refine call_ret can32 (w1 _ z_sl z_sl) ?_|refine W_if ?_|refine W_ifS ?_|refine W_and ?_)|((with_reducible refine W_fresh (fun b hb=>?_));(repeat(obtain⟨_,hb⟩:=hb)))|((with_reducible refine W_gd (fun h=>?_) (fun h=>?_))<;>(try(exfalso;first|assumption|omega))))<;>(try simp(disch:=first|assumption|omega) only[go_sem,seval,hlen,hpl,hlk,Option.getD_some,Option.getD_none,Option.isSome_some,Option.isSome_none, *]))))
       ·have hE:=HE.out
        rw[if_pos (by rw[Bool.true_and,decide_eq_false_iff_not];omega)]at hE
        subst hE
        all_goals(first|refine W_ret res14 hQ ?_|refine W_norm res14 hQ ?_|refine G_pan hQ ?_)
        all_goals exact⟨_,_,Wk.refl _,hFt,fun _=>⟨rfl,rfl⟩,fun h=>absurd h (by decide)⟩
       ·have hE:=HE.out
        rw[if_neg (by rw[Bool.true_and,decide_eq_false_iff_not];omega)]at hE
        subst hE
        all_goals(first|refine W_ret res14 hQ ?_|refine W_norm res14 hQ ?_|refine G_pan hQ ?_)
        all_goals exact⟨_,_,Wk.refl _,Fg.refl _,fun h=>absurd rfl h,fun _=>⟨p,bm,rfl,⟨k1,k2⟩,hFt⟩⟩
 ·have w0:=Cread1_S x hx h0
  have hre:=rightE_rd h0
  have hn:rightE x≠0:=by rw[hre];exact h0
  have hni:(rdE x=0)=False:=eq_false h0
  rw[hre]at hn ⊢
  generalize rdE x=e at w0 hni hn ⊢
  clear hre h0
  simp only[srcV]at w0 ⊢
  refine G_enter Tryz.func14 rfl Tryz.ntmps14 rfl fun Q hQ hQe=>?_
  (repeat'(first|refine Ctl ?_|((with_reducible refine Kof.use hK ?_);clear hK hE K E)|((with_reducible refine Eof.use hE ?_);(try clear hK hE K E))|((with_reducible refine W_cond (fun h=>?_) (fun h=>?_))<;>(try(exfalso;first|assumption|omega)))|((first|(with_reducible first|refine G_region fun K E hK hE=>?_|refine call_ret can27 (w0 _) ?_|refine W_if ?_|refine W_ifS ?_|refine W_and ?_)|((with_reducible refine W_fresh (fun b hb=>?_));(repeat(obtain⟨_,hb⟩:=hb)))|((with_reducible refine W_gd (fun h=>?_) (fun h=>?_))<;>(try(exfalso;first|assumption|omega))))<;>(try simp(disch:=first|assumption|omega) only[go_sem,seval, *]))))
  all_goals(first|refine W_ret res14 hQ ?_|refine W_norm res14 hQ ?_|refine G_pan hQ ?_)
  all_goals exact⟨_,_,Wk.refl _,(z_fg:Fg _ t),fun _=>⟨rfl,rfl⟩,fun h=>absurd h hn⟩
end Go.Proofs.YtadbggfpnhkmbaaGreat
namespace Go.Proofs.YtadbggfpnhkmbaaGreat
open Go.RowKit
attribute [local go_sem] p_enil1 p_enil2 p_nilE one_nil
theorem Cright1_S (x:List Cls)(hx:SrcOk x)(h0:rightE x≠0)(t:St):SRet Tryz.prog 14 [srcV x] t (.tup [.raw (.pointer none),.int .i64 (rightE x)]) t:=
 (Cright_S x hx t).mono fun w u h=>h.1 h0
end Go.Proofs.YtadbggfpnhkmbaaGreat
namespace Go.Proofs.YtadbggfpnhkmbaaGreat
open Go.RowKit
def isA (l:List (List UInt8)):List (List UInt8×Bool):=pairsA (fun v:List UInt8=>v) (fun _ _=>true) 0 l
theorem isA_lk {l:List (List UInt8)}(n:List UInt8):(lkA n (isA l)).getD false=decide (n∈l):=by
 unfold isA
 rw[lkA_pairs,List.map_id']
 cases h:ixT n l with
 |none=>rw[decide_eq_false (ixT_none.1 h)];rfl
 |some j=>have:=List.mem_of_getElem? (ixT_lt h);simp[ixT_lt h,this]
theorem isA_new {l:List (List UInt8)}{n:List UInt8}(hn:n∉l):ptA n true (isA l)=isA (l++[n]):=by
 unfold isA
 rw[ptA_new (by rw[pairsA_keys,List.map_id'];exact hn)]
 have:∀(i:Nat) (l:List (List UInt8)),pairsA (fun v:List UInt8=>v) (fun _ _=>true) i (l++[n])=pairsA (fun v:List UInt8=>v) (fun _ _=>true) i l++[(n,true)]:=by
  intro i l
  induction l generalizing i with
  |nil=>rfl
  |cons a l ih=>simp only[List.cons_append,pairsA,ih (i+1)]
 rw[this 0 l]
abbrev rsSt:List (Nat×TypeId×Nat):=[(0,9,1)]
def Stm1 (t:St)(xb bm:Nat)(l:List (List UInt8)):St:=(t.set bm (.map (mpV encB (isA l)))).set xb (.pk 81 [.lst (strs l) .no,.mp bm] rsSt)
section
variable {t : St} {xb bm b : Nat} {l : List (List UInt8)}
theorem Stm1_at:(Stm1 t xb bm l) xb=.pk 81 [.lst (strs l) .no,.mp bm] rsSt:=St.set_same _ _ _
theorem Stm1_bm (h:¬ bm=xb):(Stm1 t xb bm l) bm=.map (mpV encB (isA l)):=by unfold Stm1;rw[St.set_other _ _ h,St.set_same]
theorem Stm1_gt (h:¬ b=xb)(h2:¬ b=bm):(Stm1 t xb bm l) b=t b:=by unfold Stm1;rw[St.set_other _ _ h,St.set_other _ _ h2]
theorem Stm1_set {c:Cell}(h:¬ b=xb)(h2:¬ b=bm):(Stm1 t xb bm l).set b c=Stm1 (t.set b c) xb bm l:=by
 funext x
 simp only[Stm1,St.set]
 by_cases h3:x=b
 ·subst h3;simp[h,h2]
 ·simp[h3]
theorem Stm1_free:((Stm1 t xb bm l) b=.free)=(¬ b=xb∧¬ xb=b∧¬ b=bm∧¬ bm=b∧t b=.free):=by
 apply propext
 unfold Stm1
 simp only[St.set]
 by_cases h1:b=xb
 ·simp[h1]
 ·have h1':¬ xb=b:=fun e=>h1 e.symm
  by_cases h2:b=bm
  ·subst h2;simp[h1,h1']
  ·have h2':¬ bm=b:=fun e=>h2 e.symm
   simp[h1,h2,h1',h2']
end
theorem Stm1_pack {B:St}{xb bm:Nat}{l:List (List UInt8)}{o:Own}{M:Cell}(n1:NotOwn o xb)(m1:NotOwn o bm)(h1:OwnOk B o l.length)(ho:Owned (((B.own o 9 1 l.length).set bm M).set xb (.pk 81 [.lst (strs l) o,.mp bm] [])) o 9 1 (strs l).length) :
  GS (((B.own o 9 1 l.length).set bm M).set xb (.pk 81 [.lst (strs l) o,.mp bm] [])) ((B.set bm M).set xb (.pk 81 [.lst (strs l) .no,.mp bm] rsSt)):=by
 have g2:=GS.pack (i:=0) (l:=strs l) (o:=o) (T':=9) (sz:=1) (rs':=rsSt) (St.set_same ((B.own o 9 1 l.length).set bm M) xb (.pk 81 [.lst (strs l) o,.mp bm] [])) rfl ho (fun r hr=>.inl (by simpa using hr))
 rw[disown_set n1,disown_set m1,disown_own h1,St.set_set]at g2
 exact g2
attribute [local go_sem] Stm1_at Stm1_bm Stm1_gt Stm1_set Stm1_free
set_option maxHeartbeats 4000000 in
theorem Cadd_S (t:St)(xb bm:Nat)(l ts:List (List UInt8))(o0:Own)(hxb:t xb=.free)(hbm:t bm=.free)(hne:¬ bm=xb)(hl:l.length≤1000000000000)(hts:ts.length≤100000) :
  SRet Tryz.prog 15 [.ptr xb 0,.lst (ts.map strC) o0] (Stm1 t xb bm l) (.tup []) (Stm1 t xb bm (addsS l ts)):=by
 have hlen:(ts.map strC).length=ts.length:=by simp
 have hne2:¬ xb=bm:=fun e=>hne e.symm
 generalize hR:addsS l ts=R
 have HR:=Lib.hid hR
 clear hR
 refine G_enter Tryz.func15 rfl Tryz.ntmps15 rfl fun Q hQ hQe=>?_
 (repeat'(first|refine Ctl ?_|((with_reducible refine Kof.use hK ?_);clear hK hE K E)|((with_reducible refine Eof.use hE ?_);(try clear hK hE K E))|((with_reducible refine W_cond (fun h=>?_) (fun h=>?_))<;>(try(exfalso;first|assumption|omega)))|((first|(with_reducible first|refine G_region fun K E hK hE=>?_|refine W_if ?_|refine W_ifS ?_|refine W_and ?_)|((with_reducible refine W_app (fun o2 ho=>?_));(try simp(disch:=assumption) only[disown_set,disown_own,ownok_o,ownok_m,List.length_map,List.length_cons,List.length_nil,Nat.zero_add,hlen]at ho);(repeat(obtain⟨_,ho⟩:=ho)))|((with_reducible refine W_gd (fun h=>?_) (fun h=>?_))<;>(try(exfalso;first|assumption|omega))))<;>(try simp(disch:=first|assumption|omega) only[go_sem,seval,hlen, *]))))
 refine G_loopS (fun m env s'=>∃(i:Nat) (Y:List (List UInt8)),i≤ts.length∧m+i=ts.length∧Y.length≤l.length+i∧Hid (addsS Y (ts.drop i)=R)∧s'=Stm1 t xb bm Y∧env 0=.ptr xb 0∧env 6=.lst (ts.map strC) o0∧env 7=.int .i64 ts.length∧env 8=.int .i64 i) ts.length ?_ ?_
 ·exact⟨_,GS.refl _,0,l,by omega,by omega,by omega,HR,rfl,z_sl,z_sl,z_sl,z_sl⟩
 clear HR
 rintro m env s' ⟨i,Y,hi,hm,hYl,HR,rfl,e0,e6,e7,e8⟩
 by_cases hlt:i<ts.length
 ·obtain⟨q,hq⟩:=uget hlt
  have hqx:(ts.map strC)[i]?=some [.str q]:=by simp[strC,hq]
  have hr:=HR.out
  rw[List.drop_eq_getElem_cons hlt,show ts[i]=q by rw[List.getElem?_eq_getElem hlt]at hq;injection hq]at hr
  have hlk:=isA_lk (l:=Y) q
  unfold addsS at hr
  rw[List.foldl_cons]at hr
  clear HR hq
  by_cases hq0:q=[]
  ·rw[show addS Y q=Y by unfold addS;rw[if_pos (.inl hq0)]]at hr
   have HR2:Hid (addsS Y (ts.drop (i+1))=R):=Lib.hid hr
   subst hq0
   clear hr hlk
   (repeat'(first|refine Ctl ?_|((with_reducible refine Kof.use hK ?_);clear hK hE K E)|((with_reducible refine Eof.use hE ?_);(try clear hK hE K E))|((with_reducible refine W_cond (fun h=>?_) (fun h=>?_))<;>(try(exfalso;first|assumption|omega)))|((first|(with_reducible first|refine G_region fun K E hK hE=>?_|refine W_if ?_|refine W_ifS ?_|refine W_and ?_)|((with_reducible refine W_app (fun o2 ho=>?_));(try simp(disch:=assumption) only[disown_set,disown_own,ownok_o,ownok_m,List.length_map,List.length_cons,List.length_nil,Nat.zero_add,hlen,hqx]at ho);(repeat(obtain⟨_,ho⟩:=ho)))|((with_reducible refine W_gd (fun h=>?_) (fun h=>?_))<;>(try(exfalso;first|assumption|omega))))<;>(try simp(disch:=first|assumption|omega) only[go_sem,seval,hlen,hqx, *]))))
   all_goals exact⟨_,GS.refl _,m - 1,by omega,i+1,Y,by omega,by omega,by omega,HR2,rfl,z_sl,z_sl,z_sl,z_sl⟩
  ·have hqf:(q=[])=False:=eq_false hq0
   by_cases hqY:q∈Y
   ·rw[show addS Y q=Y by unfold addS;rw[if_pos (.inr hqY)]]at hr
    have HR2:Hid (addsS Y (ts.drop (i+1))=R):=Lib.hid hr
    rw[decide_eq_true hqY]at hlk
    clear hr hqY
    (repeat'(first|refine Ctl ?_|((with_reducible refine Kof.use hK ?_);clear hK hE K E)|((with_reducible refine Eof.use hE ?_);(try clear hK hE K E))|((with_reducible refine W_cond (fun h=>?_) (fun h=>?_))<;>(try(exfalso;first|assumption|omega)))|((first|(with_reducible first|refine G_region fun K E hK hE=>?_|refine W_if ?_|refine W_ifS ?_|refine W_and ?_)|((with_reducible refine W_app (fun o2 ho=>?_));(try simp(disch:=assumption) only[disown_set,disown_own,ownok_o,ownok_m,List.length_map,List.length_cons,List.length_nil,Nat.zero_add,hlen,hqx,hlk]at ho);(repeat(obtain⟨_,ho⟩:=ho)))|((with_reducible refine W_gd (fun h=>?_) (fun h=>?_))<;>(try(exfalso;first|assumption|omega))))<;>(try simp(disch:=first|assumption|omega) only[go_sem,seval,hlen,hqx,hlk, *]))))
    all_goals exact⟨_,GS.refl _,m - 1,by omega,i+1,Y,by omega,by omega,by omega,HR2,rfl,z_sl,z_sl,z_sl,z_sl⟩
   ·rw[show addS Y q=Y++[q] by unfold addS;rw[if_neg (by intro h;rcases h with h|h;exact hq0 h;exact hqY h)]]at hr
    have HR2:Hid (addsS (Y++[q]) (ts.drop (i+1))=R):=Lib.hid hr
    have HPT:=Lib.hid (isA_new hqY)
    rw[decide_eq_false hqY]at hlk
    have hcl:(strs Y).length=Y.length:=by simp[strs]
    clear hr hqY
    refine Kp_unpk xb 0 (T':=9) (sz:=1) [] Stm1_at rfl (by simp) (by simp) ?_
    intro o1 hO1 hn1
    simp only[List.set,hcl]at hO1 ⊢
    unfold Stm1 at hO1 ⊢
    rw[own_push hn1,St.set_set]
    simp only[ownok_pk,ownok_m]at hO1
    obtain⟨_,hn1m,hO1⟩:=hO1
    rw[own_push hn1m]
    (repeat'(first|refine Ctl ?_|((with_reducible refine Kof.use hK ?_);clear hK hE K E)|((with_reducible refine Eof.use hE ?_);(try clear hK hE K E))|((with_reducible refine W_cond (fun h=>?_) (fun h=>?_))<;>(try(exfalso;first|assumption|omega)))|((first|(with_reducible first|refine G_region fun K E hK hE=>?_|refine W_if ?_|refine W_ifS ?_|refine W_and ?_)|((with_reducible refine W_app (fun o2 ho=>?_));(try simp(disch:=assumption) only[disown_set,disown_own,ownok_o,ownok_m,List.length_map,List.length_cons,List.length_nil,Nat.zero_add,hlen,hqx,hlk,hcl,ownok_pk,ownok_m,or_true,if_true]at ho);(repeat(obtain⟨_,ho⟩:=ho)))|((with_reducible refine W_gd (fun h=>?_) (fun h=>?_))<;>(try(exfalso;first|assumption|omega))))<;>(try simp(disch:=first|assumption|omega) only[go_sem,seval,hlen,hqx,hlk,hcl,ownok_pk,ownok_m,or_true,if_true, *]))))
    have hst:strs (Y++[q])=strs Y++[[.str q]]:=by simp[strs,strC]
    have hln:(Y++[q]).length=Y.length+1:=by simp
    have hg:=Stm1_pack (B:=t) (xb:=xb) (bm:=bm) (l:=Y++[q]) (o:=o2) (M:=.map (mpV encB (ptA q true (isA Y)))) (by assumption) (by assumption) (by rw[hln];assumption) (by
     rw[show (strs (Y++[q])).length=Y.length+1 by simp[strs],hln]
     simp(disch:=first|assumption|omega) only[go_sem,seval, *])
    rw[hst,hln]at hg
    rw[HPT.out]at hg ⊢
    exact⟨Stm1 t xb bm (Y++[q]),by unfold Stm1;rw[hst];exact hg,m - 1,by omega,i+1,Y++[q],by omega,by omega,by rw[hln];omega,HR2,rfl,z_sl,z_sl,z_sl,z_sl⟩
 ·have hr:=HR.out
  rw[List.drop_of_length_le (by omega)]at hr
  obtain rfl:Y=R:=hr
  clear HR
  (repeat'(first|refine Ctl ?_|((with_reducible refine Kof.use hK ?_);clear hK hE K E)|((with_reducible refine Eof.use hE ?_);(try clear hK hE K E))|((with_reducible refine W_cond (fun h=>?_) (fun h=>?_))<;>(try(exfalso;first|assumption|omega)))|((first|(with_reducible first|refine G_region fun K E hK hE=>?_|refine W_if ?_|refine W_ifS ?_|refine W_and ?_)|((with_reducible refine W_app (fun o2 ho=>?_));(try simp(disch:=assumption) only[disown_set,disown_own,ownok_o,ownok_m,List.length_map,List.length_cons,List.length_nil,Nat.zero_add,hlen]at ho);(repeat(obtain⟨_,ho⟩:=ho)))|((with_reducible refine W_gd (fun h=>?_) (fun h=>?_))<;>(try(exfalso;first|assumption|omega))))<;>(try simp(disch:=first|assumption|omega) only[go_sem,seval,hlen, *]))))
  all_goals(first|refine W_ret res15 hQ ?_|refine W_norm res15 hQ ?_|refine G_pan hQ ?_)
  all_goals(refine⟨_,_,Wk.of_eq ?_,?_,rfl,rfl⟩)
  all_goals first|rfl|(exact z_fg)
end Go.Proofs.YtadbggfpnhkmbaaGreat
