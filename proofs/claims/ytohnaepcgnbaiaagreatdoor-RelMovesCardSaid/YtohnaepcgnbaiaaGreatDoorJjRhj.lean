/- Walks of functions that the claim reaches, and plain facts of them. Conditions: those in the statements. -/
import Derived.Test.YtohnaepcgnbaiaaGreatDoorJjRgj
import Derived.Test.YtohnaepcgnbaiaaGreatDoorJjIyj
import Derived.Test.YtohnaepcgnbaiaaGreatDoorJjSoundEj
import Derived.Test.YtohnaepcgnbaiaaGreatDoorJjPkj
set_option linter.unusedSimpArgs false
set_option linter.unusedVariables false
set_option maxRecDepth 100000
namespace Go.Proofs.YtohnaepcgnbaiaaGreatDoor
open Go.RowKit
set_option maxHeartbeats 8000000 in
theorem Ksat_S {s:St}{p g q n B:Nat}{ns:List Tr}{mk:Int}(hM:NMem s p g q n B ns mk 0)(hN:NsOk n ns)(hn:n≤256)(hBs:ns.length≤1048576){t:Tr}(ht:t∈ns){vs:List Nat}(hv:vs.Nodup)(hlt:∀v,v∈vs→v<n)(hoc:∀v,occT v t=true→v∈vs)(h61:vs.length≤61) :
  SRet Tryz.prog 102 [.ptr p 0,.int .i64 (ixN ns t:Nat),.lst (natsL vs) .no] s (.tup [.int .i64 ((satV t vs).length:Nat),.int .i64 0]) s:=by
 have hpf:s p≠.free:=by rw[hM.o];simp
 have hgf:s g≠.free:=by rw[hM.r];simp
 have hoff:∀(u:St),(∀z,s z≠.free→u z=s z)→NMem u p g q n B ns mk 0:=fun u hu=>⟨by rw[hu p hpf];exact hM.o,by rw[hu g hgf];exact hM.r⟩
 have ww:=fun(u:St) (h:NMem u p g q n B ns mk 0)=>Kwithin_S h hN hn hBs ht hv hlt hoc
 have hSr:=srtN_rise n vs
 have hSn:=srtN_nodup n vs
 have hSl:(srtN n vs).length=vs.length:=(srtN_perm hv hlt).length_eq.symm
 have hI:InV (srtN n vs) t:=inV_occ fun v h=>(srtN_mem hlt).2 (hoc v h)
 have hP:PosT (posN (srtN n vs)) (natsL vs).length t:=by
  refine posT_of (S:=srtN n vs) (fun v w a b c=>posN_mono hSr a b c) (fun v h=>?_) (hN.ok t ht) hI
  rw[natsL_len,← hSl]
  exact posN_lt hSn h
 have hcnt:(satV t vs).length=cntT (posN (srtN n vs)) (natsL vs).length t * 2 ^ levT (posN (srtN n vs)) (natsL vs).length t:=by
  rw[natsL_len]
  exact satV_T (hN.ok t ht) hI hv (srtN_perm hv hlt) hSr fun i v h=>posN_at hSn h
 have hlk:∀w,occT w t=true→lkZ (w:Int) (posZ (srtN n vs))=some ((posN (srtN n vs) w:Nat):Int):=fun w h=>posN_lk hSn ((srtN_mem hlt).2 (hoc w h))
 have hle:(satV t vs).length≤2 ^ 61:=Nat.le_trans (satV_le t vs) (Nat.pow_le_pow_right (by omega) h61)
 have hV:(natsL vs).length≤61:=by rw[natsL_len];exact h61
 have w2:=fun(u:St) (J:SatB) (h:SatS u J n B ns mk (natsL vs) (posZ (srtN n vs)) [])=>Sat2_S hN hV t ht h (pos:=posN (srtN n vs)) (fun k x h=>by cases h) hlk hP
 have w1:=fun(u:St) (J:SatB) (me:List (Int×Int)) (h:SatS u J n B ns mk (natsL vs) (posZ (srtN n vs)) me)=>Sat1_S h hN ht (posN (srtN n vs)) hlk
 have q1:=hP.lev
 have z1:2 ^ levT (posN (srtN n vs)) (natsL vs).length t≤2 ^ 61:=Nat.pow_le_pow_right (by omega) (by omega)
 have z2:cntT (posN (srtN n vs)) (natsL vs).length t≤2 ^ 61:=Nat.le_trans hP.cnt (Nat.pow_le_pow_right (by omega) (by omega))
 unfold SatC at w2
 generalize posN (srtN n vs)=ps at *
 generalize hps:posZ (srtN n vs)=PZ at *
 clear hps hlk hP hI hSr hSn hSl hv hlt hoc hN
 generalize levT ps (natsL vs).length t=LV at *
 generalize cntT ps (natsL vs).length t=CT at *
 generalize natsL vs=V at *
 generalize (satV t vs).length=R at *
 generalize ixN ns t=k at *
 have wp:=fun u=>Bpow_S u LV (by omega)
 generalize 2 ^ LV=PL at *
 have wm:=fun u=>Bmul_S u CT PL (by omega) (by omega) (by omega)
 rw[← hcnt]at wm
 have HM:=Lib.hid hM
 have HOFF:=Lib.hid hoff
 have WW:=Lib.hid ww
 have W1:=Lib.hid w1
 have W2:=Lib.hid w2
 have WP:=Lib.hid wp
 have WM:=Lib.hid wm
 clear hM hoff ww w1 w2 wp wm hcnt hle z1 z2 q1 ht
 refine G_enter Tryz.func102 rfl Tryz.ntmps102 rfl fun Q hQ hQe=>?_
 (repeat'(first|refine Ctl ?_|((with_reducible refine Kof.use hK ?_);clear hK hE K E)|((first|(with_reducible refine G_region fun K E hK hE=>?_)|((with_reducible refine W_fresh (fun b hb=>?_));(repeat(obtain⟨_,hb⟩:=hb))))<;>(try simp(disch:=omega) only[go_sem,seval, *]))))
 rename_i b3 hb3 _ _
 obtain⟨b5,hb5⟩:∃z,z=b:=⟨_,rfl⟩
 subst hb5
 obtain⟨u0,hu0⟩:∃u,u=(s.set b3 (.obj 54 [.ptr p 0])).set b5 (.obj 28 [.lst V .no]):=⟨_,rfl⟩
 rw[← hu0]
 have h35:¬ b3=b5:=by assumption
 have hsb5:s b5=.free:=by
  have:b5≠b3:=fun e=>h35 e.symm
  exact hb
 have f0:∀z,s z≠.free→u0 z=s z:=fun z hz=>by rw[hu0,St.set_other _ _ (nef hsb5 hz).1,St.set_other _ _ (nef hb3 hz).1]
 have g3:u0 b3=.obj 54 [.ptr p 0]:=by rw[hu0,St.set_other _ _ h35,St.set_same]
 have g5:u0 b5=.obj 28 [.lst V .no]:=by rw[hu0,St.set_same]
 refine call_ex can122 (WW.out u0 (HOFF.out u0 f0)) (fun a h=>?_)
 obtain⟨v,M⟩:=a
 obtain⟨hX,hv⟩:=h
 dsimp only at hX hv ⊢
 have nM:∀z,u0 z≠.free→v z=u0 z:=fun z hz=>by rw[hv,St.set_other _ _ (nef hX hz).1]
 have gM:v M=.map (mpZ encI PZ):=by rw[hv,St.set_same]
 have k3:v b3=.obj 54 [.ptr p 0]:=by rw[nM b3 (by rw[g3];simp),g3]
 have k5:v b5=.obj 28 [.lst V .no]:=by rw[nM b5 (by rw[g5];simp),g5]
 have kf:∀z,s z≠.free→v z=s z:=fun z hz=>by rw[nM z (by rw[f0 z hz];exact hz),f0 z hz]
 have KF:=Lib.hid kf
 have K3:=Lib.hid k3
 have K5:=Lib.hid k5
 have KM:=Lib.hid gM
 have HS5:=Lib.hid hsb5
 have HS3:=Lib.hid hb3
 clear hX hv nM gM k3 k5 kf g3 g5 f0 hu0 hsb5 hb3 hb
 simp only[go_sem,seval]
 (repeat'(first|(with_reducible refine Kp_atQ 8 ?_)|refine Ctl ?_|((with_reducible refine Kof.use hK ?_);clear hK hE K E)|((with_reducible refine W_cond (fun h=>?_) (fun h=>?_))<;>(try(exfalso;assumption)))|((first|(with_reducible refine G_region fun K E hK hE=>?_)|((with_reducible refine W_fresh (fun b hb=>?_));(repeat(obtain⟨_,hb⟩:=hb))))<;>(try simp(disch:=omega) only[go_sem,seval, *]))))
 unfold StopQ
 refine Kp_nameQ fun S hS=>?_
 rename_i b8 hb8 b10 _ _ hb10 m2 _ _ _ _ hm2 b11 _ _ _ _ _ _ hb11 _ _ _ _ _ _ _ _
 have hSf:∀z,v z≠.free→S z=v z:=fun z hz=>by
  rw[hS,St.set_other _ _ (nef hb hz).1,St.set_other _ _ (nef hb11 hz).1,St.set_other _ _ (nef hm2 hz).1,St.set_other _ _ (nef hb10 hz).1,St.set_other _ _ (nef hb8 hz).1]
 have hMm:M≠m2:=(nef hm2 (a:=M) (by rw[KM.out];simp)).1
 have hnmS:NMem S p g q n B ns mk 0:=HOFF.out S fun z hz=>by rw[hSf z (by rw[KF.out z hz];exact hz),KF.out z hz]
 have hA:SatS S ⟨p,g,q,b5,b3,b8,b10,b11,b,M,m2⟩ n B ns mk V PZ []:=by
  refine⟨hnmS,?_,?_,?_,?_,?_,?_,?_,?_,hMm⟩
  ·rw[hSf _ (by rw[K5.out];simp)];exact K5.out
  ·rw[hSf _ (by rw[K3.out];simp)];exact K3.out
  ·rw[hS];simp only[St.set,if_true,if_false, *]
  ·rw[hS];simp only[St.set,if_true,if_false, *]
  ·rw[hS];simp only[St.set,if_true,if_false, *]
  ·rw[hS];simp only[St.set,if_true,if_false, *]
  ·rw[hSf _ (by rw[KM.out];simp)];exact KM.out
  ·rw[hS];simp only[St.set,if_true,if_false, *];rfl
 have w3:=W2.out _ _ hA
 have q10:=hA.o10
 have q12:=hA.o12
 have hfin:∀z,s z≠.free→z≠m2∧S z=s z:=fun z hz=>⟨(nef hm2 (a:=z) (by rw[KF.out z hz];exact hz)).1,by rw[hSf z (by rw[KF.out z hz];exact hz),KF.out z hz]⟩
 have HFIN:=Lib.hid hfin
 dsimp only at w3 q10 q12
 clear hS hSf hA hb hb8 hb10 hb11 hm2 hnmS hMm hfin
 (repeat'(first|(with_reducible first|(refine Kof.use hKh ?_;clear hKh Kh)|refine G_plan 8 [([0,1,3,4],2,[[3,4]]),([],5,[[],[]]),([],6,[[],[],[]]),([],7,[[],[],[],[]])] [8,9] hQe fun K E hK hE=>?_)|(((with_reducible first|refine P_heads fun Kh hKh=>?_|refine P_each fun Kb hKb=>?_))<;>(try simp(disch:=omega) only[go_sem,seval, *]))))
 all_goals
  refine call_ex can124 w3 (fun a h=>?_)
  obtain⟨u1,me1⟩:=a
  obtain⟨hA3,hM3,hF3⟩:=h
  dsimp only at hA3 hM3 hF3 ⊢
  have w4:=W1.out _ _ _ hA3
  have p10:=hA3.o10
  have p12:=hA3.o12
  have wp:=WP.out u1
  have wm:=WM.out u1
  have HF3:=Lib.hid hF3
  dsimp only at w4 p10 p12
  clear hA3 hM3 hF3 w3
  simp only[go_sem,seval]
  (repeat'(first|refine Ctl ?_|(with_reducible first|(refine Kof.use hK ?_;clear hK hE K E)|(refine Kof.use hKh ?_;clear hKh Kh)|(refine Kof.use hKb (P_next ?_);clear hKb Kb))|(((with_reducible first|refine call_ret can123 (w4) ?_|refine call_ret can127 (wp) ?_|refine call_ret can126 (wm) ?_|refine P_heads fun Kh hKh=>?_|refine P_fin fun Kh hKh=>?_|refine P_each fun Kb hKb=>?_))<;>(try simp(disch:=omega) only[go_sem,seval, *]))))
 all_goals(refine W_ret res102 hQ ?_)
 refine⟨_,s,Wk.refl _,fun z=>?_,rfl,rfl⟩
 by_cases hz:s z=.free
 ·exact .inl hz
 ·obtain⟨h1,h2⟩:=HFIN.out z hz
  exact .inr ((HF3.out z h1).trans h2).symm
def rwsC (rows:List (List Int)):List (List VV):=rows.map fun r=>[rowV r]
theorem rwsC_len {rows:List (List Int)}:(rwsC rows).length=rows.length:=by simp[rwsC]
theorem rwsC_add {rows:List (List Int)}{r:List Int}:rwsC (rows++[r])=rwsC rows++[[rowV r]]:=by simp[rwsC]
theorem rwsC_one {rows:List (List Int)}:∀x,x∈rwsC rows→x.length=1:=by
 intro x hx
 obtain⟨r,_,rfl⟩:=List.mem_map.1 hx
 rfl
theorem rwsC_at {rows:List (List Int)}{i:Nat}{r:List Int}(h:rows[i]?=some r):(rwsC rows)[i]?=some [rowV r]:=by simp[rwsC,h]
structure CubB where
 p:Nat
 g:Nat
 q:Nat
 bf:Nat
 bo:Nat
 bm:Nat
 bw:Nat
 bs:Nat
 bk:Nat
 w:Nat
structure CubS (s:St) (J:CubB) (n B:Nat) (ns:List Tr) (mk:Int) (most:Nat) (w:List Int) (rows:List (List Int)) (o:Own):Prop where
 nm:NMem s J.p J.g J.q n B ns mk 0
 f:s J.bf=.obj 4 [.bool false]
 ro:s J.bo=.obj 36 [.lst (rwsC rows) o]
 m:s J.bm=.obj 3 [.int .i64 most]
 ww:s J.bw=.obj 28 [.msl J.w n]
 st:s J.bs=.obj 54 [.ptr J.p 0]
 k:s J.bk=.obj 197 [.fn 129 [.ptr J.bf 0,.ptr J.bo 0,.ptr J.bm 0,.ptr J.bw 0,.ptr J.bs 0,.ptr J.bk 0]]
 c:s J.w=.obj 3 (ints w)
 wl:w.length=n
 own:(rows=[]∧o=.full)∨∃y,o=.at_ y∧s y=.vec 28 1 rows.length
 d1:J.bo≠J.w
 d2:J.bo≠J.bf∧J.bo≠J.bm∧J.bo≠J.bw∧J.bo≠J.bs∧J.bo≠J.bk
 d3:J.w≠J.bf∧J.w≠J.bm∧J.w≠J.bw∧J.w≠J.bs∧J.w≠J.bk
structure CubF (s u:St) (J:CubB) (o o':Own):Prop where
 fr:∀z,s z≠.free→z≠J.bo→z≠J.w→(∀y,o=.at_ y→z≠y)→u z=s z
 ow:∀y,o'=.at_ y→s y=.free∨o=.at_ y
theorem CubF.refl (s:St)(J:CubB)(o:Own):CubF s s J o o:=⟨fun _ _ _ _ _=>rfl,fun _ h=>.inr h⟩
theorem CubF.trans {s u x:St}{J:CubB}{o o1 o2:Own}(h:CubF s u J o o1)(k:CubF u x J o1 o2)(hb:u J.bo≠.free)(hw:u J.w≠.free):CubF s x J o o2:=by
 refine⟨fun z hz h1 h2 h3=>?_,fun y hy=>?_⟩
 ·have e:=h.fr z hz h1 h2 h3
  rw[k.fr z (by rw[e];exact hz) h1 h2 ?_,e]
  rintro y hy rfl
  rcases h.ow _ hy with e|e
  ·exact hz e
  ·exact h3 _ e rfl
 ·rcases k.ow y hy with e|e
  ·by_cases hs:s y=.free
   ·exact .inl hs
   ·right
    refine Classical.byContradiction fun hn=>?_
    have:=h.fr y hs (fun e2=>hb (e2 ▸ e)) (fun e2=>hw (e2 ▸ e)) fun y' hy' e2=>hn (e2 ▸ hy')
    rw[this]at e
    exact hs e
  ·exact h.ow y e
theorem CubS.types {s:St}{J:CubB}{n B:Nat}{ns:List Tr}{mk:Int}{most:Nat}{w:List Int}{rows:List (List Int)}{o:Own}(h:CubS s J n B ns mk most w rows o){u:St}{o':Own}{w':List Int}{rows':List (List Int)}
  (hf:CubF s u J o o') (hro:u J.bo=.obj 36 [.lst (rwsC rows') o']) (hc:u J.w=.obj 3 (ints w')) (hl:w'.length=n) (hown:(rows'=[]∧o'=.full)∨∃y,o'=.at_ y∧u y=.vec 28 1 rows'.length) :
  CubS u J n B ns mk most w' rows' o':=by
 have nv:∀z,(∀T a b,s z≠.vec T a b)→∀y,o=.at_ y→z≠y:=fun z hz y hy e=>by
  rcases h.own with ⟨_,h1⟩|⟨y',h1,h2⟩
  ·rw[h1]at hy;cases hy
  ·rw[h1]at hy
   injection hy with hy
   subst hy e
   exact hz _ _ _ h2
 have key:∀z T xs,s z=.obj T xs→z≠J.bo→z≠J.w→u z=.obj T xs:=fun z T xs hz h1 h2=>by
  rw[hf.fr z (by rw[hz];simp) h1 h2 (nv z (by rw[hz];simp)),hz]
 obtain⟨a1,a2,a3,a4,a5⟩:=h.d2
 obtain⟨b1,b2,b3,b4,b5⟩:=h.d3
 have tn:∀{z T xs},s z=.obj T xs→T≠107→J.p≠z:=fun hz hT e=>by
  have h1:=h.nm.o
  rw[e,hz]at h1
  injection h1 with h1
  exact hT h1
 refine⟨⟨?_,?_⟩,key _ _ _ h.f a1.symm b1.symm,hro,key _ _ _ h.m a2.symm b2.symm,key _ _ _ h.ww a3.symm b3.symm,key _ _ _ h.st a4.symm b4.symm,key _ _ _ h.k a5.symm b5.symm,hc,hl,hown,h.d1,h.d2,h.d3⟩
 ·exact key _ _ _ h.nm.o (tn h.ro (by decide)) (tn h.c (by decide))
 ·rw[hf.fr _ (by rw[h.nm.r];simp) (fun e=>by have:=h.nm.r;rw[e,h.ro]at this;cases this) (fun e=>by have:=h.nm.r;rw[e,h.c]at this;cases this) (nv _ (by rw[h.nm.r];simp))]
  exact h.nm.r
theorem CubS.setw {s:St}{J:CubB}{n B:Nat}{ns:List Tr}{mk:Int}{most:Nat}{w:List Int}{rows:List (List Int)}{o:Own}(h:CubS s J n B ns mk most w rows o)(w':List Int)(hl:w'.length=n) :
  CubS (s.set J.w (.obj 3 (ints w'))) J n B ns mk most w' rows o∧CubF s (s.set J.w (.obj 3 (ints w'))) J o o:=by
 have hf:CubF s (s.set J.w (.obj 3 (ints w'))) J o o:=⟨fun z _ _ h2 _=>St.set_other _ _ h2,fun _ h=>.inr h⟩
 refine⟨h.types hf (by rw[St.set_other _ _ h.d1];exact h.ro) (St.set_same _ _ _) hl ?_,hf⟩
 rcases h.own with e|⟨y,h1,h2⟩
 ·exact .inl e
 ·refine .inr ⟨y,h1,?_⟩
  rw[St.set_other]
  ·exact h2
  ·intro e
   rw[e,h.c]at h2
   cases h2
abbrev CubA:=St×Own
def CubC (s:St)(J:CubB)(n B:Nat)(ns:List Tr)(mk:Int)(most:Nat)(w:List Int)(rows:List (List Int))(o:Own)(t:Tr):Prop:=
 SCalls Tryz.prog 129 [.int .i64 (ixN ns t:Nat),.ptr J.bf 0,.ptr J.bo 0,.ptr J.bm 0,.ptr J.bw 0,.ptr J.bs 0,.ptr J.bk 0] s fun x u=>∃a:CubA,x=.ret (.tup [])∧u=a.1∧CubS a.1 J n B ns mk most w (rows++cubT t w) a.2∧CubF s a.1 J o a.2
abbrev rowT:TypeId:=28
theorem own_read {s:St}{o o2:Own}{n m sz z:Nat}{T:TypeId}(h:OwnOk (s.disown o) o2 n)(hz:s z≠.free)(hn:∀y,o=.at_ y→z≠y):((s.disown o).own o2 T sz m) z=s z:=by
 have e1:(s.disown o) z=s z:=by
  cases o with
  |at_ y=>exact St.set_other _ _ (hn y rfl)
  |_=>rfl
 cases o2 with
 |at_ y2=>
  have h2:(s.disown o) y2=.free:=h
  exact(St.set_other _ _ fun e=>hz (by rw[← e1,e,h2])).trans e1
 |_=>exact e1
theorem CubS.add {s:St}{J:CubB}{n B:Nat}{ns:List Tr}{mk:Int}{most:Nat}{w:List Int}{rows:List (List Int)}{o:Own}(h:CubS s J n B ns mk most w rows o){u:St}{y2:Nat}
  (h1:u y2=.vec 28 1 (rows.length+1)) (h2:s y2=.free∨o=.at_ y2) (hu:∀z,s z≠.free→z≠J.bo→(∀y,o=.at_ y→z≠y)→u z=s z) (h3:u J.bo=.obj 36 [.lst (rwsC rows++[[rowV w]]) (.at_ y2)]) :
  CubS u J n B ns mk most w (rows++[w]) (.at_ y2)∧CubF s u J o (.at_ y2):=by
 have hf:CubF s u J o (.at_ y2):=⟨fun z hz a _ b=>hu z hz a b,fun y hy=>by injection hy with hy;subst hy;exact h2⟩
 refine⟨h.types hf (by rw[rwsC_add];exact h3) ?_ h.wl (.inr ⟨y2,rfl,by rw[List.length_append];exact h1⟩),hf⟩
 rw[hu J.w (by rw[h.c];simp) h.d1.symm ?_]
 ·exact h.c
 ·rintro y hy rfl
  rcases h.own with ⟨_,e⟩|⟨y',e,e2⟩
  ·rw[e]at hy;cases hy
  ·rw[e]at hy
   injection hy with hy
   rw[hy,h.c]at e2
   cases e2
set_option maxHeartbeats 4000000 in
theorem Cub1_zero {s:St}{J:CubB}{n B:Nat}{ns:List Tr}{mk:Int}{most:Nat}{w:List Int}{rows:List (List Int)}{o:Own}(hA:CubS s J n B ns mk most w rows o)(hN:NsOk n ns):CubC s J n B ns mk most w rows o (.lf false):=by
 have hk:ixN ns (.lf false)=0:=(hN.lf false).2
 unfold CubC
 have e:cubT (.lf false) w=[]:=rfl
 rw[e,List.append_nil,hk]
 suffices hs:SRet Tryz.prog 129 [.int .i64 ((0:Nat):Int),.ptr J.bf 0,.ptr J.bo 0,.ptr J.bm 0,.ptr J.bw 0,.ptr J.bs 0,.ptr J.bk 0] s (.tup []) s by
  refine SCalls.mono (h:=hs) ?_
  rintro x u ⟨rfl,rfl⟩
  exact⟨(u,o),rfl,rfl,hA,.refl _ _ _⟩
 clear hA hN hk e
 refine G_enter Tryz.func129 rfl Tryz.ntmps129 rfl fun Q hQ hQe=>?_
 (repeat'(first|refine Ctl ?_|((with_reducible refine Kof.use hK ?_);clear hK hE K E)|((with_reducible refine W_cond (fun h=>?_) (fun h=>?_))<;>(try(exfalso;assumption)))|(((with_reducible refine G_region fun K E hK hE=>?_))<;>(try simp(disch:=omega) only[go_sem,seval,Int.natCast_zero,Int.ofNat_zero, *]))))
 all_goals(refine W_ret res129 hQ ?_)
 all_goals exact⟨_,_,Wk.refl _,Fg.refl _,rfl,rfl⟩
set_option maxHeartbeats 4000000 in
theorem Cub1_one {s:St}{J:CubB}{n B:Nat}{ns:List Tr}{mk:Int}{most:Nat}{w:List Int}{rows:List (List Int)}{o:Own}(hA:CubS s J n B ns mk most w rows o)(hN:NsOk n ns)(hn:n≤256)(hm:rows.length+1≤most)(hm2:most≤16384):CubC s J n B ns mk most w rows o (.lf true):=by
 have hk:ixN ns (.lf true)=1:=(hN.lf true).2
 unfold CubC
 have e:cubT (.lf true) w=[w]:=rfl
 rw[e,hk]
 have hfull:¬ ((rows.length:Nat):Int)≥(most:Int):=by omega
 have hfull2:¬ (most:Int)≤((rows.length:Nat):Int):=by omega
 have hl:=rwsC_len (rows:=rows)
 have hone:=rwsC_one (rows:=rows)
 have wc:=CloneM_S w J.w 3
 have o1:=hA.f
 have o2:=hA.ro
 have o3:=hA.m
 have o4:=hA.ww
 have o5:=hA.c
 have hwl:=hA.wl
 have hown:=hA.own
 obtain⟨a1,a2,a3,a4,a5⟩:=hA.d2
 obtain⟨b1,b2,b3,b4,b5⟩:=hA.d3
 have d1:=hA.d1
 rw[← hwl]at o4
 have hself:s.set J.bf (.obj 4 [.bool false])=s:=St.set_self _ _ _ o1
 have wc:=wc s o5 (by omega)
 have hb256:w.length≤256:=by omega
 have g1:=Ne.symm a1
 have g2:=Ne.symm a2
 have g3:=Ne.symm a3
 have g4:=Ne.symm d1
 clear hwl
 clear hN hk e
 simp only[rowV]at wc
 have hadd:=fun u y2 h1 h2 h3 h4=>CubS.add hA (u:=u) (y2:=y2) h1 h2 h3 h4
 simp only[rowV]at hadd
 have HADD:=Lib.hid hadd
 clear hadd
 generalize intsL w=LW at *
 have hzz:s J.bo≠.free:=by rw[o2];simp
 rcases hown with ⟨h0,ho⟩|⟨y,ho,hy⟩
 ·subst h0 ho
  have hr0:rwsC []=[]:=rfl
  rw[hr0]at o2
  have hOw:Owned s .full 28 1 0:=rfl
  have hnn:∀y,Own.full=.at_ y→J.bo≠y:=fun y e=>by cases e
  clear hA
  refine G_enter Tryz.func129 rfl Tryz.ntmps129 rfl fun Q hQ hQe=>?_
  (repeat'(first|refine Ctl ?_|(with_reducible first|(refine Kof.use hK ?_;clear hK hE K E)|(refine Kof.use hKh ?_;clear hKh Kh)|(refine Kof.use hKb (P_next ?_);clear hKb Kb)|refine G_plan 4 [([0,1],2,[[0]]),([3],4,[[],[]]),([],5,[[],[],[]])] [] hQe fun K E hK hE=>?_)|((with_reducible refine W_cond (fun h=>?_) (fun h=>?_))<;>(try(exfalso;first|assumption|omega)))|((first|(with_reducible first|refine G_region fun K E hK hE=>?_|refine call_ret can34 (wc) ?_|refine P_heads fun Kh hKh=>?_|refine P_fin fun Kh hKh=>?_|refine P_each fun Kb hKb=>?_)|((with_reducible refine W_app (fun o2 ho=>?_));(try(have hRO:=own_read (T:=rowT) (sz:=1) (m:=1) ho hzz hnn))))<;>(try simp(disch:=omega) only[go_sem,seval,Int.natCast_zero,Int.ofNat_zero,Int.natCast_one,hfull,hfull2,hself,hOw, *]))))
  all_goals(refine W_ret res129 hQ ?_)
  obtain⟨y2,rfl,p2,p3,p4⟩:=own_step (T:=rowT) (n:=0) ho
  have hy2:y2≠J.bo:=fun e=>by
   rcases p4 with h|h
   ·exact hzz (e ▸ h)
   ·exact hnn _ h e.symm
  exact⟨_,_,Wk.refl _,Fg.refl _,(_,.at_ y2),rfl,rfl,HADD.out _ y2 ((St.set_other _ _ hy2).trans p2) p4 (fun z hz h1 h2=>(St.set_other _ _ h1).trans (p3 z hz h2)) (St.set_same _ _ _)⟩
 ·subst ho
  have hOw:Owned s (.at_ y) 28 1 rows.length:=hy
  have hnn:∀z,Own.at_ y=.at_ z→J.bo≠z:=fun z e=>by injection e with e;subst e;intro e;rw[← e,o2]at hy;cases hy
  generalize rwsC rows=L at *
  clear hA hy
  refine G_enter Tryz.func129 rfl Tryz.ntmps129 rfl fun Q hQ hQe=>?_
  (repeat'(first|refine Ctl ?_|(with_reducible first|(refine Kof.use hK ?_;clear hK hE K E)|(refine Kof.use hKh ?_;clear hKh Kh)|(refine Kof.use hKb (P_next ?_);clear hKb Kb)|refine G_plan 4 [([0,1],2,[[0]]),([3],4,[[],[]]),([],5,[[],[],[]])] [] hQe fun K E hK hE=>?_)|((with_reducible refine W_cond (fun h=>?_) (fun h=>?_))<;>(try(exfalso;assumption)))|((first|(with_reducible first|refine G_region fun K E hK hE=>?_|refine call_ret can34 (wc) ?_|refine P_heads fun Kh hKh=>?_|refine P_fin fun Kh hKh=>?_|refine P_each fun Kb hKb=>?_)|((with_reducible refine W_app (fun o2 ho=>?_));(try simp(disch:=assumption) only[disown_set,disown_own,ownok_o,ownok_m,List.length_map,List.length_cons,List.length_nil,Nat.zero_add,Int.natCast_zero,Int.ofNat_zero,Int.natCast_one,hl,hfull,hfull2,hself,hOw]at ho);(try(have hRO:=own_read (T:=rowT) (sz:=1) (m:=rows.length+1) ho hzz hnn))))<;>(try simp(disch:=omega) only[go_sem,seval,Int.natCast_zero,Int.ofNat_zero,Int.natCast_one,hl,hfull,hfull2,hself,hOw, *]))))
  all_goals(refine W_ret res129 hQ ?_)
  obtain⟨y2,rfl,p2,p3,p4⟩:=own_step (T:=rowT) (n:=rows.length) ho
  have hy2:y2≠J.bo:=fun e=>by
   rcases p4 with h|h
   ·exact hzz (e ▸ h)
   ·exact hnn _ h e.symm
  exact⟨_,_,Wk.refl _,Fg.refl _,(_,.at_ y2),rfl,rfl,HADD.out _ y2 ((St.set_other _ _ hy2).trans p2) p4 (fun z hz h1 h2=>(St.set_other _ _ h1).trans (p3 z hz h2)) (St.set_same _ _ _)⟩
set_option maxHeartbeats 4000000 in
theorem Cub1_nd {s:St}{J:CubB}{n B:Nat}{ns:List Tr}{mk:Int}{most:Nat}{w:List Int}{rows:List (List Int)}{o:Own}{v m:Nat}{l r:Tr}(hA:CubS s J n B ns mk most w rows o)(hN:NsOk n ns)(hm:.nd v l r∈ns)(ho:OkT n m (.nd v l r))(hw:OpenW m w)(hb:rows.length+(cubT (.nd v l r) w).length≤most)
  (ihl:∀{s:St} {w:List Int} {rows:List (List Int)} {o:Own},CubS s J n B ns mk most w rows o→OpenW (v+1) w→rows.length+(cubT l w).length≤most→CubC s J n B ns mk most w rows o l)
  (ihr:∀{s:St} {w:List Int} {rows:List (List Int)} {o:Own},CubS s J n B ns mk most w rows o→OpenW (v+1) w→rows.length+(cubT r w).length≤most→CubC s J n B ns mk most w rows o r):CubC s J n B ns mk most w rows o (.nd v l r):=by
 obtain⟨h1,h2,h3,h4,h5⟩:=ho
 have hwl:=hA.wl
 have hk2:=hN.two hm
 have k0:¬ ((ixN ns (.nd v l r):Nat):Int)=0:=by omega
 have k1:¬ ((ixN ns (.nd v l r):Nat):Int)=1:=by omega
 have w1:=fun(u:St) (w':List Int) (rows':List (List Int)) (o':Own) (h:CubS u J n B ns mk most w' rows' o')=>Nnode_S u J.p J.g J.q n B (ixN ns (.nd v l r)) ns (.nd v l r) mk 0 h.nm (ixN_get hm)
 have w1:=w1 _ _ _ _ hA
 simp only[varN,lowN,highN]at w1
 have hA1:=hA.setw (w.set v 0) (by rw[List.length_set];exact hwl)
 have hO1:OpenW (v+1) (w.set v 0):=hw.set h1
 have hO2:OpenW (v+1) (w.set v 1):=hw.set h1
 have hcu:cubT (.nd v l r) w=cubT l (w.set v 0)++cubT r (w.set v 1):=rfl
 rw[hcu,List.length_append]at hb
 have w2:=ihl hA1.1 hO1 (by omega)
 have hback:w.set v 2=w:=by
  have h:=hw v h1 (by omega)
  apply List.ext_getElem?
  intro i
  by_cases e:v=i
  ·subst e;rw[List.getElem?_set_self (by omega),h]
  ·rw[List.getElem?_set_ne e]
 have s0:=ints_set (l:=w) (i:=v) (n:=0) (by omega)
 have s1:=ints_set (l:=w.set v 0) (i:=v) (n:=1) (by rw[List.length_set];omega)
 have s2:=ints_set (l:=w.set v 1) (i:=v) (n:=2) (by rw[List.length_set];omega)
 rw[List.set_set]at s1 s2
 rw[hback]at s2
 have hr:=fun(u:St) (rows':List (List Int)) (o':Own) (h:CubS u J n B ns mk most (w.set v 1) rows' o') (hl:rows'.length+(cubT r (w.set v 1)).length≤most)=>ihr h hO2 hl
 have l0:(ints w).length=n:=by rw[ints_len];exact hwl
 have l1:(ints (w.set v 0)).length=n:=by rw[ints_len,List.length_set];exact hwl
 have l2:(ints (w.set v 1)).length=n:=by rw[ints_len,List.length_set];exact hwl
 unfold CubC at w2 hr ⊢
 rw[hcu]
 have o1:=hA.f
 have o3:=hA.st
 have o4:=hA.ww
 have o5:=hA.c
 have o6:=hA.k
 obtain⟨b1,b2,b3,b4,b5⟩:=hA.d3
 have g1:=Ne.symm b1
 have g3:=Ne.symm b3
 have g4:=Ne.symm b4
 have g5:=Ne.symm b5
 have HA:=Lib.hid hA
 have HA1:=Lib.hid hA1
 have HR:=Lib.hid hr
 have HWL:=Lib.hid hwl
 have HBD:=Lib.hid hb
 have vn:(v:Int)<(n:Int):=by omega
 clear hN hm hA hA1 hO1 hO2 hcu hback hr ihl ihr hw h3 h4 h5 hb hwl
 generalize hw0:w.set v 0=W0 at *
 generalize hw1:w.set v 1=W1 at *
 generalize ixN ns (.nd v l r)=k at *
 clear hw0 hw1
 refine G_enter Tryz.func129 rfl Tryz.ntmps129 rfl fun Q hQ hQe=>?_
 (repeat'(first|refine Ctl ?_|((with_reducible refine Kof.use hK ?_);clear hK hE K E)|((with_reducible refine W_cond (fun h=>?_) (fun h=>?_))<;>(try(exfalso;assumption)))|(((with_reducible first|refine G_region fun K E hK hE=>?_|refine call_ret can98 (w1) ?_|refine W_ifS ?_))<;>(try simp(disch:=omega) only[go_sem,seval,k0,k1,s0,l0, *]))))
 refine call_ex can129 w2 (fun a h=>?_)
 obtain⟨u1,oa⟩:=a
 obtain⟨hA3,hF3⟩:=h
 dsimp only at hA3 hF3 ⊢
 have hA4:=hA3.setw W1 (by rw[← l2,ints_len])
 have w3:=HR.out _ _ _ hA4.1 (by rw[List.length_append];have:=HBD.out;omega)
 have p4:=hA3.ww
 have p5:=hA3.c
 have p6:=hA3.k
 have HF3:=Lib.hid hF3
 have HA3:=Lib.hid hA3
 have HA4:=Lib.hid hA4
 clear w1 w2 o1 o3 o4 o5 o6 hA3 hF3 hA4 s0
 simp only[go_sem,seval]
 (repeat'(first|refine Ctl ?_|((with_reducible refine Kof.use hK ?_);clear hK hE K E)|(((with_reducible first|refine G_region fun K E hK hE=>?_|refine W_ifS ?_))<;>(try simp(disch:=omega) only[go_sem,seval,s1,l1, *]))))
 refine call_ex can129 w3 (fun a h=>?_)
 obtain⟨u2,ob⟩:=a
 obtain⟨hA5,hF5⟩:=h
 dsimp only at hA5 hF5 ⊢
 have hA6:=hA5.setw w HWL.out
 have p4:=hA5.ww
 have p5:=hA5.c
 have HA5:=Lib.hid hA5
 have HA6:=Lib.hid hA6
 have HF5:=Lib.hid hF5
 clear w3 p6 hA5 hF5 hA6 s1
 simp only[go_sem,seval]
 (repeat'(first|((with_reducible refine Kof.use hK ?_);clear hK hE K E)|(((with_reducible first|refine G_region fun K E hK hE=>?_|refine W_ifS ?_))<;>(try simp(disch:=omega) only[go_sem,seval,s2,l2, *]))))
 (refine W_norm res129 hQ ?_)
 refine⟨_,_,Wk.refl _,Fg.refl _,(_,ob),rfl,rfl,?_,?_⟩
 ·have:=HA6.out.1
  rw[List.append_assoc]at this
  exact this
 ·have nf:∀{u:St} {w':List Int} {rows':List (List Int)} {o':Own},CubS u J n B ns mk most w' rows' o'→u J.bo≠.free∧u J.w≠.free:=fun h=>⟨by rw[h.ro];simp,by rw[h.c];simp⟩
  have f1:=HA1.out.2.trans HF3.out (nf HA1.out.1).1 (nf HA1.out.1).2
  have f2:=f1.trans HA4.out.2 (nf HA3.out).1 (nf HA3.out).2
  have f3:=f2.trans HF5.out (nf HA4.out.1).1 (nf HA4.out.1).2
  exact f3.trans HA6.out.2 (nf HA5.out).1 (nf HA5.out).2
theorem Cub1_S {n B:Nat}{ns:List Tr}{mk:Int}{J:CubB}{most:Nat}(hN:NsOk n ns)(hn:n≤256)(hm2:most≤16384):∀(t:Tr) {s:St} {m:Nat} {w:List Int} {rows:List (List Int)} {o:Own},t∈ns→OkT n m t→CubS s J n B ns mk most w rows o→OpenW m w→rows.length+(cubT t w).length≤most→CubC s J n B ns mk most w rows o t
 |.lf false,s,m,w,rows,o,hm,ho,hA,hw,hb=>Cub1_zero hA hN
 |.lf true,s,m,w,rows,o,hm,ho,hA,hw,hb=>Cub1_one hA hN hn hb hm2
 |.nd v l r,s,m,w,rows,o,hm,ho,hA,hw,hb=>by
  obtain⟨hl,hr⟩:=hN.ch _ _ _ hm
  exact Cub1_nd hA hN hm ho hw hb (fun a b c=>Cub1_S hN hn hm2 l hl ho.2.2.2.1 a b c) (fun a b c=>Cub1_S hN hn hm2 r hr ho.2.2.2.2 a b c)
def wayI (n i:Nat):List Int:=(List.range n).map fun j=>if j<i then 2 else 0
theorem wayI_len {n i:Nat}:(wayI n i).length=n:=by simp[wayI]
theorem wayI_set {n i:Nat}(h:i<n):(wayI n i).set i 2=wayI n (i+1):=by
 apply List.ext_getElem
 ·simp[wayI]
 ·intro j h1 h2
  simp only[wayI,List.getElem_set,List.getElem_map,List.getElem_range]
  by_cases e:i=j
  ·subst e;simp
  ·rw[if_neg e]
   by_cases e2:j<i
   ·rw[if_pos e2,if_pos (by omega)]
   ·rw[if_neg e2,if_neg (by omega)]
theorem wayI_end {n:Nat}:wayI n n=List.replicate n 2:=by
 apply List.ext_getElem
 ·simp[wayI]
 ·intro j h1 h2
  simp only[wayI,List.getElem_map,List.getElem_range,List.getElem_replicate]
  rw[if_pos (by simpa [wayI]using h1)]
theorem wayI_new {n:Nat}:List.replicate n (VV.int .i64 0)=ints (wayI n 0):=by
 apply List.ext_getElem
 ·simp[wayI,ints]
 ·intro j h1 h2
  simp[wayI,ints]
set_option maxHeartbeats 8000000 in
theorem Kcubes_S {s:St}{p g q n B:Nat}{ns:List Tr}{mk:Int}(hM:NMem s p g q n B ns mk 0)(hN:NsOk n ns)(hn:n≤256)(hBs:ns.length≤1048576){t:Tr}(ht:t∈ns){most:Nat}(hm:most≤16384)(hc:(cubT t (List.replicate n 2)).length≤most) :
  SRet Tryz.prog 103 [.ptr p 0,.int .i64 (ixN ns t:Nat),.int .i64 most] s (.tup [.lst (rwsC (cubT t (List.replicate n 2))) .no,.int .i64 0]) s:=by
 have hpf:s p≠.free:=by rw[hM.o];simp
 have hgf:s g≠.free:=by rw[hM.r];simp
 have hoff:∀(u:St),(∀z,s z≠.free→u z=s z)→NMem u p g q n B ns mk 0:=fun u hu=>⟨by rw[hu p hpf];exact hM.o,by rw[hu g hgf];exact hM.r⟩
 have wl:=fun(u:St) (h:NMem u p g q n B ns mk 0)=>Nlen_S u p g q n B ns mk 0 h
 have wv:=fun(u:St) (h:NMem u p g q n B ns mk 0)=>Nvars_S u p g q n B ns mk 0 h
 have wm:=fun(u:St) (h:NMem u p g q n B ns mk 0)=>Kmay_S u p g q n B (ixN ns t) ns t mk 0 h (ixN_get ht)
 have wc:=fun(u:St) (J:CubB) (h:CubS u J n B ns mk most (List.replicate n 2) [] .full)=>Cub1_S hN hn hm t (m:=0) ht (hN.ok t ht) h (fun v _ hv=>by rw[List.length_replicate]at hv;rw[List.getElem?_replicate,if_pos hv]) (by simpa using hc)
 unfold CubC at wc
 have hlen2:=hN.len
 have hz:¬ ((ns.length:Nat):Int)=0:=by omega
 have hm1:¬ (most:Int)<0:=by omega
 have hm3:¬ (most:Int) > 16384:=by omega
 have hm4:¬ (16384:Int)<(most:Int):=by omega
 have HM:=Lib.hid hM
 have HOFF:=Lib.hid hoff
 have WL:=Lib.hid wl
 have WV:=Lib.hid wv
 have WM:=Lib.hid wm
 have WC:=Lib.hid wc
 clear hM hoff wl wv wm wc ht hN hc hlen2
 generalize ixN ns t=k at *
 refine G_enter Tryz.func103 rfl Tryz.ntmps103 rfl fun Q hQ hQe=>?_
 (repeat'(first|(with_reducible refine Kp_atQ 1 ?_)|refine Ctl ?_|((with_reducible refine Kof.use hK ?_);clear hK hE K E)|((first|(with_reducible refine G_region fun K E hK hE=>?_)|((with_reducible refine W_fresh (fun b hb=>?_));(repeat(obtain⟨_,hb⟩:=hb))))<;>(try simp(disch:=omega) only[go_sem,seval, *]))))
 unfold StopQ
 refine Kp_nameQ fun S hS=>?_
 rename_i b3 hb3 _ _
 obtain⟨b5,hb5⟩:∃z,z=b:=⟨_,rfl⟩
 subst hb5
 have hsb5:s b5=.free:=by assumption
 have k3:S b3=.obj 54 [.ptr p 0]:=by rw[hS];simp only[St.set,if_true,if_false, *]
 have k5:S b5=.obj 3 [.int .i64 most]:=by rw[hS];simp only[St.set,if_true,if_false, *]
 have kf:∀z,s z≠.free→S z=s z:=fun z hz=>by rw[hS,St.set_other _ _ (nef hsb5 hz).1,St.set_other _ _ (nef hb3 hz).1]
 have hnm:=HOFF.out S kf
 have wl:=WL.out S hnm
 have wv:=WV.out S hnm
 have wm:=WM.out S hnm
 have KF:=Lib.hid kf
 have HS5:=Lib.hid hsb5
 have HS3:=Lib.hid hb3
 clear hS hb hsb5 hb3 kf hnm
 (repeat'(first|(with_reducible refine Kp_atQ 7 ?_)|refine Ctl ?_|((with_reducible refine Kof.use hK ?_);clear hK hE K E)|((with_reducible refine W_cond (fun h=>?_) (fun h=>?_))<;>(try(exfalso;assumption)))|((first|(with_reducible first|refine G_region fun K E hK hE=>?_|refine call_ret can56 (wl) ?_|refine call_ret can128 (wm) ?_|refine call_ret can60 (wv) ?_|refine W_and ?_)|((with_reducible refine W_fresh (fun b hb=>?_));(repeat(obtain⟨_,hb⟩:=hb))))<;>(try simp(disch:=omega) only[go_sem,seval,hz,hm1,hm3,hm4,Int.toNat_natCast, *]))))
 unfold StopQ
 refine Kp_nameQ fun S1 hS1=>?_
 rename_i W hW _ _
 obtain⟨b9,hb9⟩:∃z,z=b:=⟨_,rfl⟩
 subst hb9
 have hSb9:S b9=.free:=by assumption
 have jW:S1 W=.obj 3 (ints (wayI n 0)):=by rw[hS1,← wayI_new];simp only[St.set,if_true,if_false, *]
 have j9:S1 b9=.obj 28 [.msl W n]:=by rw[hS1];simp only[St.set,if_true,if_false, *]
 have jf:∀z,S z≠.free→S1 z=S z:=fun z hz=>by rw[hS1,St.set_other _ _ (nef hSb9 hz).1,St.set_other _ _ (nef hW hz).1]
 have j3:S1 b3=.obj 54 [.ptr p 0]:=by rw[jf b3 (by rw[k3];simp),k3]
 have j5:S1 b5=.obj 3 [.int .i64 most]:=by rw[jf b5 (by rw[k5];simp),k5]
 have hself:S1=S1.set W (.obj 3 (ints (wayI n 0))):=(St.set_self _ _ _ jW).symm
 have JF:=Lib.hid jf
 have HSW:=Lib.hid hW
 have HS9:=Lib.hid hSb9
 have d93:¬ b9=b3:=(nef hSb9 (a:=b3) (by rw[k3];simp)).2
 have d95:¬ b9=b5:=(nef hSb9 (a:=b5) (by rw[k5];simp)).2
 have dW3:¬ W=b3:=(nef hW (a:=b3) (by rw[k3];simp)).2
 have dW5:¬ W=b5:=(nef hW (a:=b5) (by rw[k5];simp)).2
 have hll:=fun i=>(ints_len (l:=wayI n i)).trans wayI_len
 have HLL:=Lib.hid hll
 have HSELF:=Lib.hid hself
 clear hS1 hb hW hSb9 jf k3 k5 wl wv wm hll hself
 (repeat'(first|refine Ctl ?_|((with_reducible refine Kof.use hK ?_);clear hK hE K E)|(((with_reducible refine G_region fun K E hK hE=>?_))<;>(try simp(disch:=omega) only[go_sem,seval, *]))))
 refine G_loop (fun m env s'=>∃(i:Nat),i≤n∧m+i=n∧s'=S1.set W (.obj 3 (ints (wayI n i)))∧env 1=.int .i64 k∧env 3=.ptr b3 0∧env 5=.ptr b5 0∧env 9=.ptr b9 0∧env 35=.int .i64 n∧env 36=.int .i64 i) n ?_ ?_
 ·exact⟨_,Fg.refl _,0,by omega,by omega,HSELF.out,z_sl,z_sl,z_sl,z_sl,z_sl,z_sl⟩
 rintro m env s' ⟨i,hi,hmi,rfl,e1,e3,e5,e9,e35,e36⟩
 by_cases h2:i<n
 ·have hst:=ints_set (l:=wayI n i) (i:=i) (n:=2) (by rw[wayI_len];exact h2)
  rw[wayI_set h2]at hst
  have hl:=HLL.out i
  generalize ints (wayI n i)=X at *
  obtain⟨Y,hY⟩:∃Y,Y=ints (wayI n (i+1)):=⟨_,rfl⟩
  rw[← hY]at hst
  have HY:=Lib.hid hY
  clear hY
  (repeat'(first|refine Ctl ?_|((with_reducible refine Kof.use hK ?_);clear hK hE K E)|((with_reducible refine W_cond (fun h=>?_) (fun h=>?_))<;>(try(exfalso;assumption)))|(((with_reducible first|refine G_region fun K E hK hE=>?_|refine W_ifS ?_))<;>(try simp(disch:=omega) only[go_sem,seval,hst,hl, *]))))
  all_goals exact⟨_,Fg.refl _,m - 1,by omega,i+1,by omega,by omega,by rw[← HY.out],z_sl,z_sl,z_sl,z_sl,z_sl,z_sl⟩
 ·obtain rfl:i=n:=by omega
  rw[wayI_end]
  (repeat'(first|(with_reducible refine Kp_atQ 16 ?_)|refine Ctl ?_|((with_reducible refine Kof.use hK ?_);clear hK hE K E)|((with_reducible refine W_cond (fun h=>?_) (fun h=>?_))<;>(try(exfalso;assumption)))|((first|(with_reducible refine G_region fun K E hK hE=>?_)|((with_reducible refine W_fresh (fun b hb=>?_));(repeat(obtain⟨_,hb⟩:=hb))))<;>(try simp(disch:=omega) only[go_sem,seval, *]))))
  unfold StopQ
  refine Kp_nameQ fun S2 hS2=>?_
  rename_i b11 _ _ hb11 b12 _ _ _ _ hb12 _ _ _ _ _ _
  obtain⟨b13,hb13⟩:∃z,z=b:=⟨_,rfl⟩
  subst hb13
  have hSb13:S1 b13=.free:=by assumption
  have hf2:∀z,S1 z≠.free→z≠W→S2 z=S1 z:=fun z hz h=>by rw[hS2,St.set_other _ _ (nef hSb13 hz).1,St.set_other _ _ (nef hb12 hz).1,St.set_other _ _ (nef hb11 hz).1,St.set_other _ _ h]
  have n3:S1 b3≠.free:=by rw[j3];simp
  have n5:S1 b5≠.free:=by rw[j5];simp
  have n9:S1 b9≠.free:=by rw[j9];simp
  have hsS2:∀z,s z≠.free→z≠W∧z≠b11∧S2 z=s z:=fun z hz=>by
   have e1:=KF.out z hz
   have e2:S z≠.free:=by rw[e1];exact hz
   have e3:=JF.out z e2
   have e4:S1 z≠.free:=by rw[e3];exact e2
   have e5:=(nef HSW.out e2).1
   exact⟨e5,(nef hb11 e4).1,by rw[hf2 z e4 e5,e3,e1]⟩
  have hC:CubS S2 ⟨p,g,q,b12,b11,b5,b9,b3,b13,W⟩ i B ns mk most (List.replicate i 2) [] .full:=by
   refine⟨HOFF.out S2 fun z hz=>(hsS2 z hz).2.2,?_,?_,?_,?_,?_,?_,?_,by simp,.inl ⟨rfl,rfl⟩,by assumption,⟨?_,(nef hb11 n5).2,(nef hb11 n9).2,(nef hb11 n3).2,?_⟩,⟨?_,dW5,?_,dW3,?_⟩⟩
   ·rw[hS2];simp only[St.set,if_true,if_false, *]
   ·rw[hS2];simp only[St.set,if_true,if_false, *];rfl
   ·rw[hf2 b5 n5 (Ne.symm dW5)];exact j5
   ·rw[hf2 b9 n9 (by assumption)];exact j9
   ·rw[hf2 b3 n3 (Ne.symm dW3)];exact j3
   ·rw[hS2];simp only[St.set,if_true,if_false, *]
   ·rw[hS2];simp only[St.set,if_true,if_false, *]
   all_goals assumption
  have w3:=WC.out _ _ hC
  have q13:=hC.k
  have HSS:=Lib.hid hsS2
  dsimp only at w3 q13
  rw[List.nil_append]at w3
  clear hS2 hC hsS2 hf2 hSb13 hb hb11 hb12 n3 n5 n9 j3 j5 j9 jW
  (repeat'((((with_reducible refine G_region fun K E hK hE=>?_))<;>(try simp(disch:=omega) only[go_sem,seval, *]))))
  refine call_ex can129 w3 (fun a h=>?_)
  obtain⟨u,o'⟩:=a
  obtain⟨hC3,hF3⟩:=h
  dsimp only at hC3 hF3 ⊢
  have p11:=hC3.ro
  have p12:=hC3.f
  dsimp only at p11 p12
  have hfin:Fg u s:=fun z=>by
   by_cases hz:s z=.free
   ·exact .inl hz
   ·obtain⟨a1,a2,a3⟩:=HSS.out z hz
    exact .inr (by rw[← a3];exact(hF3.fr z (by rw[a3];exact hz) a2 a1 (fun y hy=>by cases hy)).symm)
  have HFIN:=Lib.hid hfin
  clear w3 q13 hC3 hF3 hfin
  simp only[go_sem,seval]
  (repeat'(first|refine Ctl ?_|((with_reducible refine Kof.use hK ?_);clear hK hE K E)|((with_reducible refine W_cond (fun h=>?_) (fun h=>?_))<;>(try(exfalso;assumption)))|(((with_reducible refine G_region fun K E hK hE=>?_))<;>(try simp(disch:=omega) only[go_sem,seval, *]))))
  all_goals(refine W_ret res103 hQ ?_)
  exact⟨_,_,Wk.tupQ,HFIN.out,rfl,rfl⟩
theorem Kp_wkt {P:Program}{N:Nat}{D:List Deferred}{c:Code}{k:List Itm}{Q:Pst}{env:Env}{s:St}(t:Nat){x y:VV}(ht:env t=x)(hw:Wk x y)(h:Kp P N D (.code c::k) Q .norm (upd env t y) s):Kp P N D (.code c::k) Q .norm env s:=
 fun w0 G w a hfr hD hS=>h w0 G w a ⟨hfr.size,fun i=>by
  by_cases e:i=t
  ·subst e
   simp only[upd,if_true]
   exact hw _ _ (ht ▸ hfr.rel i)
  ·simp only[upd,if_neg e]
   exact hfr.rel i⟩ hD hS
theorem Wk.rawnil:Wk (.raw (.slice none 0 0)) (.lst [] .no):=fun G v h=>by
 cases h
 exact .emp none 0 .no (.inl rfl)
section
variable {P : Program} {N : Nat} {D : List Deferred} {c : Code} {k : List Itm} {Q : Pst} {env : Env} {s : St}
theorem Kp_frzR (t g n:Nat){T:TypeId}{xs:List VV}(hb:s g=.row T 1 xs)(ht:env t=.mrw g n)(hn:xs.length=n)
  (h:Kp P N D (.code c::k) Q .norm (upd env t (.lst (xs.map fun y=>[y]) .no)) (s.set g .free)):Kp P N D (.code c::k) Q .norm env s:=by
 intro w0 G w a hfr hD hS
 obtain⟨G',hle,hS',hK,_⟩:=hS.frzR hb
 refine wp_mono (h w0 G' w a ⟨hfr.size,fun i=>?_⟩ hD hS') fun e a w=>Up.back hle
 by_cases e:i=t
 ·subst e
  have hr:=(hfr.rel i).mono hle
  rw[ht]at hr
  simp only[upd,if_true]
  exact hr.frz hn hK
 ·simp only[upd,if_neg e]
  exact(hfr.rel i).mono hle
theorem Kp_rawnil (t:Nat)(ht:env t=.lst [] .full)(h:Kp P N D (.code c::k) Q .norm (upd env t (.raw (.slice none 0 0))) s):Kp P N D (.code c::k) Q .norm env s:=by
 refine Kp_wkt t ht (fun G v hr=>?_) h
 cases hr with
 |emp a cap o ho=>
  rcases ho with ho|⟨_,rfl,rfl⟩
  ·cases ho
  ·exact .raw _
 |lst b off len cap sz xs o f hl hc hz h1 hK hR ho=>
  simp at hl
  subst hl
  rcases ho with ho|⟨_,_,h0⟩|⟨ho,_⟩
  ·cases ho
  ·omega
  ·cases ho
end
theorem flat_grow {f:Nat→List Nat}(hf:∀m,0<(f m).length):∀(all:List Nat),all.length≤(all.flatMap f).length
 |[]=>Nat.le_refl _
 |m::r=>by
  have:=flat_grow hf r
  have:=hf m
  simp only[List.flatMap_cons,List.length_append,List.length_cons]
  omega
theorem stepE_one {c:List Int}{i v m:Nat}:0<((if (c[v]?).getD 0≠1 then [m] else [])++(if (c[v]?).getD 0≠0 then [m+2 ^ i] else [])).length:=by
 by_cases h1:(c[v]?).getD 0≠1
 ·rw[if_pos h1];simp only[List.length_append,List.length_singleton];omega
 ·rw[if_neg h1,if_pos]
  ·simp
  ·intro h2
   rw[h2]at h1
   exact h1 (by decide)
theorem stepE_grow {c:List Int}{i v:Nat}{all:List Nat}:all.length≤(stepE c i v all).length:=flat_grow (fun m=>stepE_one) all
theorem expE_grow {c:List Int}:∀{vs:List Nat} {i:Nat} {all:List Nat},all.length≤(expE c i vs all).length
 |[],i,all=>Nat.le_refl _
 |v::vs,i,all=>Nat.le_trans stepE_grow (expE_grow (vs:=vs))
theorem stepE_add {c:List Int}{i v m:Nat}{all:List Nat}:stepE c i v (all++[m])=stepE c i v all++((if (c[v]?).getD 0≠1 then [m] else [])++(if (c[v]?).getD 0≠0 then [m+2 ^ i] else [])):=by
 simp only[stepE,List.flatMap_append,List.flatMap_cons,List.flatMap_nil,List.append_nil]
theorem stepE_twice {c:List Int}{i v:Nat}:∀{all:List Nat},(stepE c i v all).length≤2 * all.length
 |[]=>Nat.le_refl _
 |m::r=>by
  have:=stepE_twice (c:=c) (i:=i) (v:=v) (all:=r)
  simp only[stepE,List.flatMap_cons,List.length_append,List.length_cons]at this ⊢
  have h1:∀(p:Prop) [Decidable p] (x:Nat),(if p then [x] else []).length≤1:=fun p _ x=>by split<;>simp
  have a:=h1 ((c[v]?).getD 0≠1) m
  have b:=h1 ((c[v]?).getD 0≠0) (m+2 ^ i)
  omega
theorem or_new {m i:Nat}(h:m<2 ^ i)(hi:i≤61):vint .or .i64 (m:Int) ((2 ^ i:Nat):Int)=some (.int .i64 ((m+2 ^ i:Nat):Int)):=by
 have hle:2 ^ i≤2 ^ 61:=Nat.pow_le_pow_right (by omega) hi
 have e1:m ||| 2 ^ i=m+2 ^ i:=by
  have:=Nat.two_pow_add_eq_or_of_lt h 1
  rw[Nat.mul_one]at this
  rw[Nat.or_comm,← this,Nat.add_comm]
 have e:(BitVec.ofInt IntKind.i64.bits (m:Int) ||| BitVec.ofInt IntKind.i64.bits ((2 ^ i:Nat):Int)).toNat=m+2 ^ i:=by
  rw[BitVec.toNat_or]
  simp only[IntKind.bits]
  rw[BitVec.ofInt_natCast,BitVec.ofInt_natCast,BitVec.toNat_ofNat,BitVec.toNat_ofNat,Nat.mod_eq_of_lt (by omega),Nat.mod_eq_of_lt (by omega),e1]
 simp only[vint]
 unfold bOr
 rw[e,wrap_i64 (by omega) (by omega)]
theorem ints_flat:∀{l:List Int},(intsL l).flatten=ints l
 |[]=>rfl
 |x::l=>by
  have:=ints_flat (l:=l)
  simp only[intsL,ints,List.map_cons,List.flatten_cons]at this ⊢
  rw[this]
  rfl
theorem natsL_add {l:List Nat}{m:Nat}:natsL (l++[m])=natsL l++[[.int .i64 (m:Int)]]:=by simp[natsL]
def outUp (L:List (List Int))(vs:List Nat)(j:Nat):List Nat:=(L.take j).flatMap fun c=>expE c 0 vs [0]
theorem outUp_add {L:List (List Int)}{vs:List Nat}{j:Nat}{c:List Int}(h:L[j]?=some c):outUp L vs (j+1)=outUp L vs j++expE c 0 vs [0]:=by
 unfold outUp
 rw[List.take_add_one,h]
 simp
def OutS (s u:St)(x:VV)(j:Nat)(O:List Nat):Prop:=
 (j=0∧O=[]∧u=s∧x=.raw (.slice none 0 0))∨(0<j∧∃g,s g=.free∧u=s.set g (.row 3 1 (ints (O.map fun(k:Nat)=>(k:Int))))∧x=.mrw g O.length)
attribute [-go_sem] p_and p_or p_shl p_shr
set_option maxHeartbeats 16000000 in
theorem Keach_S {s:St}{p g q n B:Nat}{ns:List Tr}{mk:Int}(hM:NMem s p g q n B ns mk 0)(hN:NsOk n ns)(hn:n≤256)(hBs:ns.length≤1048576){t:Tr}(ht:t∈ns){vs:List Nat}(hv:vs.Nodup)(hlt:∀v,v∈vs→v<n)(hoc:∀v,occT v t=true→v∈vs)(h61:vs.length≤61){most:Nat}(hm:most≤16384)(hc:(satV t vs).length≤most) :
  SRet Tryz.prog 69 [.ptr p 0,.int .i64 (ixN ns t:Nat),.lst (natsL vs) .no,.int .i64 most] s (.tup [.lst (natsL (satV t vs)) .no,.int .i64 0]) s:=by
 have hot:=hN.ok t ht
 have hI:InV vs t:=inV_occ hoc
 have hol:=outE_len hot hI hv hlt
 have hcl:(cubT t (List.replicate n 2)).length≤16384:=by
  have:=cubT_le (t:=t) (w:=List.replicate n 2) (vs:=vs)
  omega
 have w1:=Ksat_S hM hN hn hBs ht hv hlt hoc h61
 have w2:=Kcubes_S hM hN hn hBs ht (Nat.le_refl 16384) hcl
 have hfin:=fun(l:List Nat) h1 h2=>satV_of (l:=l) hot hI hv hlt h1 h2
 have hcc:∀c,c∈cubT t (List.replicate n 2)→c.length=n∧(expE c 0 vs [0]).length≤16384:=fun c h=>⟨cubT_len hot (by simp) h,by
  have:(expE c 0 vs [0]).length≤(outE t (List.replicate n 2) vs).length:=by
   obtain⟨a,b,e⟩:=List.append_of_mem h
   unfold outE
   rw[e,List.flatMap_append,List.flatMap_cons,List.length_append,List.length_append]
   omega
  omega⟩
 have hup:∀j,(outUp (cubT t (List.replicate n 2)) vs j).length≤16384:=fun j=>by
  have:(outUp (cubT t (List.replicate n 2)) vs j).length≤(outE t (List.replicate n 2) vs).length:=by
   unfold outE outUp
   conv=>rhs;rw[← List.take_append_drop j (cubT t (List.replicate n 2)),List.flatMap_append,List.length_append]
   omega
  omega
 have hall:outUp (cubT t (List.replicate n 2)) vs (cubT t (List.replicate n 2)).length=outE t (List.replicate n 2) vs:=by unfold outE outUp;rw[List.take_length]
 rw[← hall]at hfin
 have hat:=fun(i k:Nat) (h:vs[i]?=some k)=>natsL_at h
 have hln:(natsL vs).length=vs.length:=natsL_len
 have hln62:¬ ((natsL vs).length:Int) > 62:=by rw[hln];omega
 have hm1:¬ (most:Int)<0:=by omega
 have hm3:¬ (most:Int) > 16384:=by omega
 have hc1:¬ (((satV t vs).length:Nat):Int) > (most:Int):=by omega
 have hlt2:∀i v,vs[i]?=some v→v<n:=fun i v h=>hlt v (List.mem_of_getElem? h)
 have hrl:=rwsC_len (rows:=cubT t (List.replicate n 2))
 have hra:=fun i r h=>rwsC_at (rows:=cubT t (List.replicate n 2)) (i:=i) (r:=r) h
 clear hM hN hI hoc hot hol hall ht
 generalize cubT t (List.replicate n 2)=CL at *
 generalize hSV:satV t vs=SV at *
 generalize hSL:SV.length=sl at *
 generalize ixN ns t=k at *
 generalize natsL vs=V at *
 generalize hLL:rwsC CL=LL at *
 have HAT:=Lib.hid hat
 have HLT:=Lib.hid hlt2
 have HRA:=Lib.hid hra
 have HCC:=Lib.hid hcc
 have HUP:=Lib.hid hup
 have HFIN:=Lib.hid hfin
 clear hat hlt hlt2 hra hcc hup hfin hLL hSL hSV hc hv
 rw[hln]at hln62
 refine G_enter Tryz.func69 rfl Tryz.ntmps69 rfl fun Q hQ hQe=>?_
 (repeat'(first|(with_reducible refine Kp_atQ 12 ?_)|refine Ctl ?_|((with_reducible refine Kof.use hK ?_);clear hK hE K E)|((with_reducible refine W_cond (fun h=>?_) (fun h=>?_))<;>(try(exfalso;assumption)))|(((with_reducible first|refine G_region fun K E hK hE=>?_|refine call_ret can102 (w1) ?_|refine call_ret can103 (w2) ?_))<;>(try simp(disch:=omega) only[go_sem,seval,hln62,hm1,hm3,hc1,hln, *]))))
 unfold StopQ
 refine Kp_rawnil 13 (z_sl) ?_
 (repeat'(first|refine Ctl ?_|((with_reducible refine Kof.use hK ?_);clear hK hE K E)|(((with_reducible refine G_region fun K E hK hE=>?_))<;>(try simp(disch:=omega) only[go_sem,seval,hrl, *]))))
 refine G_loop (fun m env s'=>∃(j:Nat) (x:VV),j≤CL.length∧m+j=CL.length∧Hid (OutS s s' x j (outUp CL vs j))∧env 2=.lst V .no∧env 13=x∧env 57=.lst LL .no∧env 58=.int .i64 CL.length∧env 59=.int .i64 j) CL.length ?_ ?_
 ·exact⟨_,Fg.refl _,0,_,by omega,by omega,Lib.hid (.inl ⟨rfl,rfl,rfl,rfl⟩),z_sl,z_sl,z_sl,z_sl,z_sl⟩
 rintro m env u ⟨j,x,hj,hmj,HO,e2,e13,e57,e58,e59⟩
 by_cases h2:j<CL.length
 ·have hx:=HRA.out j _ (List.getElem?_eq_getElem h2)
  obtain⟨hcn,hce⟩:=HCC.out _ (List.getElem_mem h2)
  have hadd:=outUp_add (vs:=vs) (List.getElem?_eq_getElem h2)
  have hulen:=HUP.out (j+1)
  generalize CL[j]=c at *
  have hcat:=fun(i:Nat) (z:Int) (h:c[i]?=some z)=>intsL_at h
  simp only[rowV]at hx
  generalize intsL c=CV at *
  obtain⟨TG,hTG⟩:∃TG,TG=expE c 0 vs [0]:=⟨_,rfl⟩
  rw[← hTG]at hadd hce
  have hl0:natsL [0]=[[.int .i64 0]]:=rfl
  have HADD:=Lib.hid hadd
  have HTG:=Lib.hid hTG.symm
  have HCAT:=Lib.hid hcat
  clear hadd hTG hcat
  (repeat'(first|refine Ctl ?_|((with_reducible refine Kof.use hK ?_);clear hK hE K E)|((with_reducible refine W_cond (fun h=>?_) (fun h=>?_))<;>(try(exfalso;assumption)))|(((with_reducible refine G_region fun K E hK hE=>?_))<;>(try simp(disch:=omega) only[go_sem,seval,hx,hln, *]))))
  refine G_loop (fun m2 env s'=>∃(i:Nat) (al:List Nat) (oA:Own),i≤vs.length∧m2+i=vs.length∧Hid (expE c i (vs.drop i) al=TG∧al.Nodup∧0<al.length∧∀m,m∈al→m<2 ^ i)∧s'=u∧env 2=.lst V .no∧env 13=x∧env 57=.lst LL .no∧env 58=.int .i64 CL.length∧env 59=.int .i64 j∧env 15=.lst CV .no∧env 16=.lst (natsL al) oA∧env 64=.lst V .no∧env 65=.int .i64 vs.length∧env 66=.int .i64 i) vs.length ?_ ?_
  ·exact⟨_,Fg.refl _,0,[0],.full,by omega,by omega,Lib.hid ⟨by rw[List.drop_zero];exact HTG.out,by simp,by simp,by simp⟩,rfl,z_sl,z_sl,z_sl,z_sl,z_sl,z_sl,by(rw[hl0];((try simp(disch:=assumption) only[go_sem,seval, *])<;>rfl)),z_sl,z_sl,z_sl⟩
  clear e2 e13 e57 e58 e59 hl0
  rintro m2 env s' ⟨i,al,oA,hi,hmi,HE,rfl,e2,e13,e57,e58,e59,e15,e16,e64,e65,e66⟩
  by_cases h3:i<vs.length
  ·have hvx:=HAT.out i _ (List.getElem?_eq_getElem h3)
   have hvn:=HLT.out i _ (List.getElem?_eq_getElem h3)
   have hdr:=List.drop_eq_getElem_cons h3
   generalize vs[i]=v at *
   obtain⟨cv,hcv⟩:∃cv,c[v]?=some cv:=⟨_,List.getElem?_eq_getElem (by omega)⟩
   have hcx:=HCAT.out v cv hcv
   have HE2:Hid (expE c (i+1) (vs.drop (i+1)) (stepE c i v al)=TG∧(stepE c i v al).Nodup∧0<(stepE c i v al).length∧∀m,m∈stepE c i v al→m<2 ^ (i+1)):=by
    obtain⟨a1,a2,a3,a4⟩:=HE.out
    rw[hdr]at a1
    obtain⟨b1,b2⟩:=stepE_ok (c:=c) (v:=v) a2 a4
    exact Lib.hid ⟨a1,b1,stepE_pos a3,b2⟩
   have hal:al.length≤16384:=by
    obtain⟨a1,a2,a3,a4⟩:=HE.out
    have:=expE_grow (c:=c) (vs:=vs.drop i) (i:=i) (all:=al)
    rw[a1]at this
    omega
   have hnal:(natsL al).length=al.length:=natsL_len
   have haat:=fun(i k:Nat) (h:al[i]?=some k)=>natsL_at h
   have h4:=HE.out.2.2.2
   have H4:=Lib.hid h4
   have HAAT:=Lib.hid haat
   have hnn0:natsL (stepE c i v (al.take 0))=[]:=rfl
   have hi61:i≤61:=by omega
   have hsh:=shl_one (k:=i) (by omega)
   have hstep:=fun(j m:Nat) (h:al[j]?=some m)=>show stepE c i v (al.take (j+1))=stepE c i v (al.take j)++((if cv≠1 then [m] else [])++(if cv≠0 then [m+2 ^ i] else [])) by
    rw[List.take_add_one,h]
    have:=stepE_add (c:=c) (i:=i) (v:=v) (m:=m) (all:=al.take j)
    rw[hcv]at this
    exact this
   have hor:=fun(m:Nat) (h:m<2 ^ i)=>or_new h hi61
   generalize hPP:2 ^ i=PP at *
   have HOR:=Lib.hid hor
   have HSTEP:=Lib.hid hstep
   have HPP:=Lib.hid hPP
   clear hdr hcv haat h4 HE hPP hor hstep
   (repeat'(first|refine Ctl ?_|((with_reducible refine Kof.use hK ?_);clear hK hE K E)|((with_reducible refine W_cond (fun h=>?_) (fun h=>?_))<;>(try(exfalso;assumption)))|(((with_reducible refine G_region fun K E hK hE=>?_))<;>(try simp(disch:=omega) only[go_sem,seval,hvx,hnal, *]))))
   refine G_loop (fun m3 env s''=>∃(i3:Nat) (o3:Own),i3≤al.length∧m3+i3=al.length∧OwnOk s' o3 (stepE c i v (al.take i3)).length∧s''=s'.own o3 3 1 (stepE c i v (al.take i3)).length∧env 2=.lst V .no∧env 13=x∧env 57=.lst LL .no∧env 58=.int .i64 CL.length∧env 59=.int .i64 j∧env 15=.lst CV .no∧env 17=.int .i64 i∧env 18=.int .i64 v∧env 19=.lst (natsL (stepE c i v (al.take i3))) o3∧env 64=.lst V .no∧env 65=.int .i64 vs.length∧env 66=.int .i64 i∧env 71=.lst (natsL al) oA∧env 72=.int .i64 al.length∧env 73=.int .i64 i3) al.length ?_ ?_
   ·exact⟨_,Fg.refl _,0,.full,by omega,by omega,rfl,rfl,z_sl,z_sl,z_sl,z_sl,z_sl,z_sl,z_sl,z_sl,by(rw[hnn0];((try simp(disch:=assumption) only[go_sem,seval, *])<;>rfl)),z_sl,z_sl,z_sl,z_sl,z_sl,z_sl⟩
   clear e2 e13 e57 e58 e59 e15 e16 e64 e65 e66 hnn0
   rintro m3 env s'' ⟨i3,o3,hi3,hm3,hO3,rfl,e2,e13,e57,e58,e59,e15,e17,e18,e19,e64,e65,e66,e71,e72,e73⟩
   by_cases h5:i3<al.length
   ·have hmx:=HAAT.out i3 _ (List.getElem?_eq_getElem h5)
    have hml:=H4.out _ (List.getElem_mem h5)
    have hst:=HSTEP.out i3 _ (List.getElem?_eq_getElem h5)
    have hlen3:(stepE c i v (al.take i3)).length≤2 * 16384:=by
     have:=stepE_twice (c:=c) (i:=i) (v:=v) (all:=al.take i3)
     rw[List.length_take]at this
     omega
    have hor:=HOR.out _ hml
    clear hml
    generalize al[i3]=mm at *
    generalize hNX:stepE c i v (al.take i3)=nx at *
    have HNX:=Lib.hid hNX
    clear hNX
    have hnxl:(natsL nx).length=nx.length:=natsL_len
    by_cases c1:cv=1
    ·subst c1
     have hst2:stepE c i v (al.take (i3+1))=nx++[mm+PP]:=by rw[hst];rfl
     have hnx2:natsL (stepE c i v (al.take (i3+1)))=natsL nx++[[.int .i64 ((mm+PP:Nat):Int)]]:=by rw[hst2,natsL_add]
     have hl2:(stepE c i v (al.take (i3+1))).length=nx.length+1:=by rw[hst2];simp
     have HH:=Lib.hid (And.intro hnx2 hl2)
     clear hst hst2 hnx2 hl2
     generalize mm+PP=mp at *
     generalize natsL nx=NL at *
     generalize nx.length=ql at *
     (repeat'(first|refine Ctl ?_|((with_reducible refine Kof.use hK ?_);clear hK hE K E)|((with_reducible refine W_cond (fun h=>?_) (fun h=>?_))<;>(try(exfalso;assumption)))|((first|(with_reducible refine G_region fun K E hK hE=>?_)|((with_reducible refine W_app (fun o2 ho=>?_));(try simp(disch:=assumption) only[disown_set,disown_own,ownok_o,ownok_m,List.length_map,List.length_cons,List.length_nil,Nat.zero_add,hmx,hcx,hsh,hor,hnxl]at ho)))<;>(try simp(disch:=first|assumption|omega) only[go_sem,seval,hmx,hcx,hsh,hor,hnxl, *]))))
     all_goals exact⟨_,Fg.refl _,m3 - 1,by omega,i3+1,o2,by omega,by omega,by rw[HH.out.2];exact ho,by rw[HH.out.2],z_sl,z_sl,z_sl,z_sl,z_sl,z_sl,z_sl,z_sl,by(rw[HH.out.1];((try simp(disch:=assumption) only[go_sem,seval, *])<;>rfl)),z_sl,z_sl,z_sl,z_sl,z_sl,z_sl⟩
    ·by_cases c0:cv=0
     ·subst c0
      have hst2:stepE c i v (al.take (i3+1))=nx++[mm]:=by rw[hst];rfl
      have hnx2:natsL (stepE c i v (al.take (i3+1)))=natsL nx++[[.int .i64 (mm:Int)]]:=by rw[hst2,natsL_add]
      have hl2:(stepE c i v (al.take (i3+1))).length=nx.length+1:=by rw[hst2];simp
      have HH:=Lib.hid (And.intro hnx2 hl2)
      clear hst hst2 hnx2 hl2 c1
      generalize natsL nx=NL at *
      generalize nx.length=ql at *
      (repeat'(first|refine Ctl ?_|((with_reducible refine Kof.use hK ?_);clear hK hE K E)|((with_reducible refine W_cond (fun h=>?_) (fun h=>?_))<;>(try(exfalso;assumption)))|((first|(with_reducible refine G_region fun K E hK hE=>?_)|((with_reducible refine W_app (fun o2 ho=>?_));(try simp(disch:=assumption) only[disown_set,disown_own,ownok_o,ownok_m,List.length_map,List.length_cons,List.length_nil,Nat.zero_add,hmx,hcx,hnxl]at ho)))<;>(try simp(disch:=first|assumption|omega) only[go_sem,seval,hmx,hcx,hnxl, *]))))
      all_goals exact⟨_,Fg.refl _,m3 - 1,by omega,i3+1,o2,by omega,by omega,by rw[HH.out.2];exact ho,by rw[HH.out.2],z_sl,z_sl,z_sl,z_sl,z_sl,z_sl,z_sl,z_sl,by(rw[HH.out.1];((try simp(disch:=assumption) only[go_sem,seval, *])<;>rfl)),z_sl,z_sl,z_sl,z_sl,z_sl,z_sl⟩
     ·have hst2:stepE c i v (al.take (i3+1))=(nx++[mm])++[mm+PP]:=by rw[hst,if_pos c1,if_pos c0,List.append_assoc]
      have hnx2:natsL (stepE c i v (al.take (i3+1)))=(natsL nx++[[.int .i64 (mm:Int)]])++[[.int .i64 ((mm+PP:Nat):Int)]]:=by rw[hst2,natsL_add,natsL_add]
      have hl2:(stepE c i v (al.take (i3+1))).length=nx.length+1+1:=by rw[hst2];simp
      have HH:=Lib.hid (And.intro hnx2 hl2)
      clear hst hst2 hnx2 hl2
      generalize mm+PP=mp at *
      generalize natsL nx=NL at *
      generalize nx.length=ql at *
      have hnx3:(NL++[[VV.int .i64 (mm:Int)]]).length=ql+1:=by rw[List.length_append,hnxl];rfl
      (repeat'(first|refine Ctl ?_|((with_reducible refine Kof.use hK ?_);clear hK hE K E)|((with_reducible refine W_cond (fun h=>?_) (fun h=>?_))<;>(try(exfalso;assumption)))|((first|(with_reducible refine G_region fun K E hK hE=>?_)|((with_reducible refine W_app (fun o2 ho=>?_));(try simp(disch:=assumption) only[disown_set,disown_own,ownok_o,ownok_m,List.length_map,List.length_cons,List.length_nil,Nat.zero_add,hmx,hcx,hsh,hor,hnxl,hnx3,c0,c1]at ho)))<;>(try simp(disch:=first|assumption|omega) only[go_sem,seval,hmx,hcx,hsh,hor,hnxl,hnx3,c0,c1, *]))))
      all_goals exact⟨_,Fg.refl _,m3 - 1,by omega,i3+1,o2,by omega,by omega,by rw[HH.out.2];exact ho,by rw[HH.out.2],z_sl,z_sl,z_sl,z_sl,z_sl,z_sl,z_sl,z_sl,by(rw[HH.out.1];((try simp(disch:=assumption) only[go_sem,seval, *])<;>rfl)),z_sl,z_sl,z_sl,z_sl,z_sl,z_sl⟩
   ·obtain rfl:i3=al.length:=by omega
    rw[List.take_length]at hO3 e19 ⊢
    (repeat'(first|refine Ctl ?_|((with_reducible refine Kof.use hK ?_);clear hK hE K E)|((with_reducible refine W_cond (fun h=>?_) (fun h=>?_))<;>(try(exfalso;assumption)))|(((with_reducible refine G_region fun K E hK hE=>?_))<;>(try simp(disch:=omega) only[go_sem,seval, *]))))
    all_goals exact⟨_,Fg.own hO3,m2 - 1,by omega,i+1,stepE c i v al,o3,by omega,by omega,HE2,rfl,z_sl,z_sl,z_sl,z_sl,z_sl,z_sl,z_sl,z_sl,z_sl,z_sl⟩
  ·have hiv:i=vs.length:=by omega
   subst hiv
   obtain⟨a1,a2,a3,a4⟩:=HE.out
   rw[List.drop_length]at a1
   have ha:al=TG:=a1
   subst ha
   have hnl:(natsL al).length=al.length:=natsL_len
   have hne:natsL al≠[]:=fun e=>by rw[e]at hnl;simp at hnl;omega
   have hone:∀y,y∈natsL al→y.length=1:=fun y hy=>by
    obtain⟨z,_,rfl⟩:=List.mem_map.1 hy
    rfl
   have hfl:(natsL al).flatten=ints (al.map fun(k:Nat)=>(k:Int)):=by rw[natsL_ints,ints_flat]
   have hadd:=HADD.out
   rw[hadd,List.length_append]at hulen
   have HH:=Lib.hid hadd
   clear HE a1 a2 a3 a4 hadd HTG HADD h3
   rcases HO.out with ⟨h0,hO0,hu,hx0⟩|⟨h0,g,hg,hu,hx0⟩
   ·subst hu hx0 h0
    rw[hO0,List.nil_append]at HH
    clear HO hO0 hulen
    generalize natsL al=AL at *
    (repeat'(first|refine Ctl ?_|((with_reducible refine Kof.use hK ?_);clear hK hE K E)|((with_reducible refine W_cond (fun h=>?_) (fun h=>?_))<;>(try(exfalso;omega)))|((first|(with_reducible refine G_region fun K E hK hE=>?_)|((with_reducible refine W_app0 (fun bM hM=>?_))))<;>(try simp(disch:=omega) only[go_sem,seval,hnl,hfl,Nat.mul_one, *]))))
    exact⟨_,Fg.refl _,m - 1,by omega,0+1,_,by omega,by omega,Lib.hid (.inr ⟨by omega,bM,hM,by rw[HH.out],by rw[HH.out]⟩),z_sl,z_sl,z_sl,z_sl,z_sl⟩
   ·subst hu hx0
    have hOl:=HUP.out j
    generalize hOO:outUp CL vs j=O at *
    have hil:(ints (O.map fun(k:Nat)=>(k:Int))).length=O.length:=by rw[ints_len,List.length_map]
    have hap:ints ((O++al).map fun(k:Nat)=>(k:Int))=ints (O.map fun(k:Nat)=>(k:Int))++ints (al.map fun(k:Nat)=>(k:Int)):=by simp[ints]
    have HAP:=Lib.hid hap
    have hsg:s.set g .free=s:=St.set_self _ _ _ hg
    clear hap HO hOO
    generalize ints (O.map fun(k:Nat)=>(k:Int))=OX at *
    generalize ints (al.map fun(k:Nat)=>(k:Int))=AX at *
    generalize natsL al=AL at *
    (repeat'(first|refine Ctl ?_|((with_reducible refine Kof.use hK ?_);clear hK hE K E)|((with_reducible refine W_cond (fun h=>?_) (fun h=>?_))<;>(try(exfalso;omega)))|((first|(with_reducible refine G_region fun K E hK hE=>?_)|((with_reducible refine W_appM (fun bM hM=>?_))))<;>(try simp(disch:=omega) only[go_sem,seval,hnl,hfl,Nat.mul_one,hil,hsg,St.set_set, *]))))
    exact⟨_,Fg.refl _,m - 1,by omega,j+1,_,by omega,by omega,Lib.hid (.inr ⟨by omega,bM,hM,by rw[HH.out,HAP.out],by rw[HH.out,List.length_append]⟩),z_sl,z_sl,z_sl,z_sl,z_sl⟩
 ·have hjc:j=CL.length:=by omega
  subst hjc
  rcases HO.out with ⟨h0,hO0,hu,hx0⟩|⟨h0,g,hg,hu,hx0⟩
  ·subst hu hx0
   have hsv:=HFIN.out [] (by rw[hO0]) (by simp)
   have ws:=Isort0_S u
   have HSV:=Lib.hid hsv
   clear hsv HO hO0
   (repeat'(first|(with_reducible refine Kp_atQ 33 ?_)|refine Ctl ?_|((with_reducible refine Kof.use hK ?_);clear hK hE K E)|((with_reducible refine W_cond (fun h=>?_) (fun h=>?_))<;>(try(exfalso;assumption)))|(((with_reducible first|refine G_region fun K E hK hE=>?_|refine call_ret can82 (ws) ?_))<;>(try simp(disch:=omega) only[go_sem,seval, *]))))
   unfold StopQ
   refine Kp_wkt 13 (x:=.raw (.slice none 0 0)) (y:=.lst [] .no) (z_sl) Wk.rawnil ?_
   (repeat'(first|refine Ctl ?_|((with_reducible refine Kof.use hK ?_);clear hK hE K E)|(((with_reducible refine G_region fun K E hK hE=>?_))<;>(try simp(disch:=omega) only[go_sem,seval, *]))))
   all_goals(refine W_ret res69 hQ ?_)
   rw[← HSV.out]
   exact⟨_,_,Wk.refl _,Fg.refl _,rfl,rfl⟩
  ·subst hu hx0
   have hperm:(outUp CL vs CL.length).mergeSort.Perm (outUp CL vs CL.length):=List.mergeSort_perm _ _
   have hpw:(outUp CL vs CL.length).mergeSort.Pairwise (·≤·):=by
    have:=List.pairwise_mergeSort (le:=fun a b:Nat=>decide (a≤b)) (fun a b c h1 h2=>by simp at *;omega) (fun a b=>by simp;omega) (outUp CL vs CL.length)
    exact this.imp fun h=>by simpa using h
   have hsv:=HFIN.out _ hperm hpw
   have hrz:riseZ ((outUp CL vs CL.length).map fun(k:Nat)=>(k:Int))=SV.map fun(k:Nat)=>(k:Int):=by
    rw[riseZ_congr (hperm.symm.map _),hsv,riseZ_id]
    rw[List.pairwise_map]
    rw[hsv]at hpw
    exact hpw.imp fun h=>by omega
   have hsl:SV.length=(outUp CL vs CL.length).length:=by rw[← hsv];exact hperm.length_eq
   have hup:=HUP.out CL.length
   have ws:=Isort_S (s.set g (.row 3 1 (ints ((outUp CL vs CL.length).map fun(k:Nat)=>(k:Int))))) g 3 ((outUp CL vs CL.length).map fun(k:Nat)=>(k:Int)) (by rw[List.length_map];omega) (St.set_same _ _ _)
   rw[hrz,List.length_map,St.set_set]at ws
   have hsg:s.set g .free=s:=St.set_self _ _ _ hg
   have hfz:(ints (SV.map fun(k:Nat)=>(k:Int))).map (fun y=>[y])=natsL SV:=by simp[ints,natsL,Function.comp]
   have hil:(ints (SV.map fun(k:Nat)=>(k:Int))).length=(outUp CL vs CL.length).length:=by rw[ints_len,List.length_map,hsl]
   clear hperm hpw hsv hrz hsl HO
   generalize ints ((outUp CL vs CL.length).map fun(k:Nat)=>(k:Int))=OX at *
   generalize (outUp CL vs CL.length).length=ol at *
   generalize ints (SV.map fun(k:Nat)=>(k:Int))=SX at *
   generalize natsL SV=SL at *
   (repeat'(first|(with_reducible refine Kp_atQ 33 ?_)|refine Ctl ?_|((with_reducible refine Kof.use hK ?_);clear hK hE K E)|((with_reducible refine W_cond (fun h=>?_) (fun h=>?_))<;>(try(exfalso;assumption)))|(((with_reducible first|refine G_region fun K E hK hE=>?_|refine call_ret can82 (ws) ?_))<;>(try simp(disch:=omega) only[go_sem,seval, *]))))
   unfold StopQ
   refine Kp_frzR 13 g ol (St.set_same _ _ _) (z_sl) hil ?_
   rw[hfz,St.set_set,hsg]
   (repeat'(first|refine Ctl ?_|((with_reducible refine Kof.use hK ?_);clear hK hE K E)|(((with_reducible refine G_region fun K E hK hE=>?_))<;>(try simp(disch:=omega) only[go_sem,seval, *]))))
   all_goals(refine W_ret res69 hQ ?_)
   exact⟨_,_,Wk.refl _,Fg.refl _,rfl,rfl⟩
end Go.Proofs.YtohnaepcgnbaiaaGreatDoor
