/- Walks of functions that the claim reaches, and plain facts of them. Conditions: those in the statements. -/
import Derived.Test.YtgdbgfjhenobdaaGreatDoorJmCu
import Derived.Test.YtgdbgfjhenobdaaGreatDoorJmCrj
set_option linter.unusedSimpArgs false
set_option linter.unusedVariables false
set_option maxRecDepth 100000
namespace Go.Proofs.YtgdbgfjhenobdaaGreatDoor
open Go.RowKit
attribute [local go_sem] NmX_set NmX_gt NmX_bf NmX_setf NmX_own NmX_dis NmX_ownd NmX_ok NmX_free
structure NmB (t:St) (C:B7) (b15 b13 b14 b8 b7:Nat) (txt:List UInt8) (n:Nat):Prop where
 fr:NFr t C.l
 h15:t b15=.obj 142 [.ptr C.xv 0]
 h13:t b13=.obj 9 [.str txt]
 h14:t b14=.obj 3 [.int .i64 (n:Int)]
 h8:t b8=.obj 142 [.ptr C.xn 0]
 h7:t b7=.obj 142 [.ptr C.xf 0]
theorem strs_snoc (l:List (List UInt8))(x:List UInt8):strs (l++[x])=strs l++[[.str x]]:=by simp[strs]
theorem natsL_snoc (l:List Nat)(x:Nat):natsL (l++[x])=natsL l++[[.int .i64 (x:Int)]]:=by simp[natsL]
theorem strsl_len (l:List (List UInt8)):(strs l).length=l.length:=by simp[strs]
theorem natsL_len (l:List Nat):(natsL l).length=l.length:=by simp[natsL]
theorem own_bs {s:St}{o o2:Own}{T sz n m:Nat}(h:OwnOk (s.own o2 T sz n) o m):OwnOk s o m:=by
 cases o with
 |at_ x=>simp only[OwnOk,own_fr]at h;exact h.2
 |_=>exact h
theorem owned_oth {s:St}{o o2:Own}{T T' sz sz' n m:Nat}(h:OwnOk (s.own o2 T sz n) o m)(h2:OwnOk s o2 n):Owned ((s.own o2 T sz n).own o T' sz' m) o2 T sz n=True:=by
 apply eq_true
 cases o2 with
 |no=>exact h2
 |full=>exact h2
 |at_ y=>
  cases o with
  |at_ x=>
   simp only[OwnOk,own_fr]at h
   simp only[NotOwn]at h
   have h':¬ y=x:=fun e=>h.1 e.symm
   simp[Owned,St.own,St.set,h']
  |_=>simp[Owned,St.own,St.set]
theorem own_rd_ok {s:St}{o:Own}{T sz n b:Nat}(h:OwnOk s o n)(hb:s b≠.free):(s.own o T sz n) b=s b:=own_rd (h.not hb)
theorem own2_rd {s:St}{o1 o2:Own}{T1 T2 z1 z2 n1 n2 b:Nat}(h:OwnOk (s.own o1 T1 z1 n1) o2 n2)(h1:OwnOk s o1 n1)(hb:s b≠.free):((s.own o1 T1 z1 n1).own o2 T2 z2 n2) b=s b:=by
 rw[own_rd_ok h (by rw[own_rd_ok h1 hb];exact hb),own_rd_ok h1 hb]
attribute [local go_sem] owned_oth disown_other own_rd_ok own2_rd
theorem z_nfr {t u:St}{l:List Nat}(h:NFr t l)(h2:NFr u l:=by(repeat(first|assumption|apply NFr.set|apply NFr.own))):NFr u l:=h2
theorem addsS_len:∀(l ts:List (List UInt8)),(addsS l ts).length≤l.length+ts.length
 |l,[]=>by simp[addsS]
 |l,x::ts=>by
  have h:=addsS_len (addS l x) ts
  have h2:(addS l x).length≤l.length+1:=by unfold addS;split<;>simp
  unfold addsS at h ⊢
  simp only[List.foldl_cons,List.length_cons]
  omega
theorem NmX_pack {t:St}{C:B7}{ns fs vs:List (List UInt8)}{i:Nat}{xs:List VV}{rs rs':List (Nat×TypeId×Nat)}{l:List (List VV)}{o:Own}{T' sz n:Nat}
  (hnd:C.l.Nodup) (hno:NO o C.l) (hO:OwnOk t o n) (hn:l.length=n) (hi:xs[i]?=some (.lst l o)) (hrs:∀r,r∈rs'→r=(i,T',sz)∨(r∈rs∧r.1≠i)) :
  GS (NmX (t.own o T' sz n) (.pk 26 xs rs) C ns fs vs) (NmX t (.pk 26 (xs.set i (.lst l .no)) rs') C ns fs vs):=by
 subst hn
 have h:=GS.pack (s:=NmX (t.own o T' sz l.length) (.pk 26 xs rs) C ns fs vs) (b:=C.bf) (T:=26) (xs:=xs) (rs:=rs) (rs':=rs') (i:=i) (l:=l) (o:=o) (T':=T') (sz:=sz)
  (NmX_bf hnd) hi (by rw[NmX_ownd hno,owned_own hO];trivial) hrs
 rwa [NmX_dis hno,NmX_setf hnd,disown_own hO]at h
theorem NmX_fg {t:St}{c d:Cell}{C:B7}{ns fs vs:List (List UInt8)}{b:Nat}(h:NA b C.l)(hb:t b=.free):Fg (NmX (t.set b d) c C ns fs vs) (NmX t c C ns fs vs):=by
 rw[← NmX_set h];exact Fg.of_set d (by rw[NmX_gt h];exact hb)
set_option maxHeartbeats 4000000 in
theorem Cn1_S (t:St)(C:B7)(b15 b13 b14 b8 b7:Nat)(txt:List UInt8)(n:Nat)(hB:NmB t C b15 b13 b14 b8 b7 txt n)(q:Nms)(vs:List (List UInt8))(k:Int)(d sr cn nm:List UInt8)(ar:List (List UInt8))(o t2:List Stm)(har:ar.length≤100000)
  (h1:vs.length≤900000000000) (h2:q.sites.length≤900000000000) (h3:q.calls.length≤900000000000) (h4:q.home.length≤900000000000) (h5:q.names.length≤900000000000) (h6:q.fields.length≤900000000000) :
  SRet Tryz.prog 63 [.agg (stC (.mk k d sr cn nm ar o t2)),.ptr b15 0,.ptr C.bf 0,.ptr b13 0,.ptr b14 0,.ptr b8 0,.ptr b7 0] (NmX t (.pk 26 (fctC q) rsF) C q.names q.fields vs) (.tup [])
   (NmX t (.pk 26 (fctC (stmN txt n (q,vs) (.mk k d sr cn nm ar o t2)).1) rsF) C (stmN txt n (q,vs) (.mk k d sr cn nm ar o t2)).1.names (stmN txt n (q,vs) (.mk k d sr cn nm ar o t2)).1.fields (stmN txt n (q,vs) (.mk k d sr cn nm ar o t2)).2):=by
 obtain⟨hfr,k15,k13,k14,k8,k7⟩:=hB
 have n15:NA b15 C.l:=hfr.na (by rw[k15];simp)
 have n13:NA b13 C.l:=hfr.na (by rw[k13];simp)
 have n14:NA b14 C.l:=hfr.na (by rw[k14];simp)
 have n8:NA b8 C.l:=hfr.na (by rw[k8];simp)
 have n7:NA b7 C.l:=hfr.na (by rw[k7];simp)
 have f15:t b15≠.free:=by rw[k15];simp
 have f13:t b13≠.free:=by rw[k13];simp
 have f14:t b14≠.free:=by rw[k14];simp
 have f8:t b8≠.free:=by rw[k8];simp
 have f7:t b7≠.free:=by rw[k7];simp
 have hnd:=hfr.nd
 have hal:(ar.map strC).length=ar.length:=by simp
 obtain⟨qm,qv,qs,qc,qo,qh,qn,qf,qx⟩:=q
 simp only at h2 h3 h4 h5 h6
 have hls:=strsl_len qs
 have hlc:=strsl_len qc
 have hlh:=natsL_len qh
 have hv2:(addsS vs [d,sr]).length≤vs.length+2:=addsS_len vs [d,sr]
 have w1:∀(u:St) (c:Cell) (o:Own),NFr u C.l→SRet Tryz.prog 61 [.ptr C.xv 0,.lst [[.str d],[.str sr]] o] (NmX u c C qx qf vs) (.tup []) (NmX u c C qx qf (addsS vs [d,sr])):=fun u c o h=>Nadd_v h qx qf vs [d,sr] o (by omega) (by simp)
 have w2:∀(u:St) (c:Cell) (o:Own),NFr u C.l→SRet Tryz.prog 61 [.ptr C.xv 0,.lst (ar.map strC) o] (NmX u c C qx qf (addsS vs [d,sr])) (.tup []) (NmX u c C qx qf (addsS (addsS vs [d,sr]) ar)):=fun u c o h=>Nadd_v h qx qf _ ar o (by omega) har
 have hv3:addsS vs (d::sr::ar)=addsS (addsS vs [d,sr]) ar:=by unfold addsS;rw[← List.foldl_append];rfl
 simp only[stmN,hv3]
 generalize addsS vs [d,sr]=vs2 at w1 w2 hv2 ⊢
 generalize addsS vs2 ar=vs3 at w2 ⊢
 simp only[stC,strsV]
 clear hv3
 by_cases hk1:k=1
 ·subst hk1
  simp only[if_true]
  refine SCalls.gs ?_
  refine G_enter Tryz.func63 rfl Tryz.ntmps63 rfl fun Q hQ hQe=>?_
  refine Kp_unpk C.bf 2 (T':=9) (sz:=1) [(0,9,1),(1,9,1),(3,9,1),(6,3,1),(7,3,1)] (NmX_bf hnd) rfl (by simp) (by simp) ?_
  intro o1 hO1 _
  rw[NmX_ok]at hO1
  obtain⟨hnoo1,hO1⟩:=hO1
  rw[NmX_own hnoo1,NmX_setf hnd]
  simp only[List.set,hls,hlc,hlh]at hO1 ⊢
  have mhO1f15:=hO1.not (f15)
  have mhO1f13:=hO1.not (f13)
  have mhO1f14:=hO1.not (f14)
  have mhO1f8:=hO1.not (f8)
  have mhO1f7:=hO1.not (f7)
  (repeat'(first|refine Ctl ?_|((with_reducible refine Kof.use hK ?_);clear hK hE K E)|((with_reducible refine W_cond (fun h=>?_) (fun h=>?_))<;>(try(exfalso;assumption)))|((first|(with_reducible first|refine G_region fun K E hK hE=>?_|refine call_ret can61 (w1 _ _ _ (z_nfr hfr)) ?_|refine call_ret can61 (w2 _ _ _ (z_nfr hfr)) ?_)|((with_reducible refine W_fresh (fun b hb=>?_));(repeat(obtain⟨_,hb⟩:=hb));(try(obtain⟨_,_⟩:=nef hb f15;obtain⟨_,_⟩:=nef hb f13;obtain⟨_,_⟩:=nef hb f14;obtain⟨_,_⟩:=nef hb f8;obtain⟨_,_⟩:=nef hb f7)))|((with_reducible refine W_app (fun o2 ho=>?_));(try simp(disch:=assumption) only[disown_set,disown_own,ownok_o,ownok_m,List.length_map,List.length_cons,List.length_nil,Nat.zero_add,hls,hlc,hlh,hal,NmX_dis,NmX_ok,or_true,true_or,if_true]at ho);(repeat(obtain⟨_,ho⟩:=ho))))<;>(try simp(disch:=first|assumption|omega) only[go_sem,seval,hls,hlc,hlh,hal,NmX_dis,NmX_ok,or_true,true_or,if_true, *]))))
  all_goals(refine W_norm res63 hQ ?_)
  all_goals exact⟨_,_,Wk.refl _,NmX_fg (by assumption) (by(simp(disch:=assumption) only[own_rd];exact hb)),_,NmX_pack (i:=2) (l:=strs qs++[[.str nm]]) (rs':=rsF) hnd (by assumption) (by assumption) (by simp[strsl_len]) rfl (by simp),rfl,by simp only[fctC,fctV,strs_snoc,natsL_snoc,List.set_cons_succ,List.set_cons_zero]⟩
 ·have g1:(k=1)=False:=eq_false hk1
  by_cases hk5:k=5
  ·subst hk5
   have w3:∀(u:St) (c:Cell) (o:Own),NFr u C.l→SRet Tryz.prog 61 [.ptr C.xn 0,.lst [[.str nm]] o] (NmX u c C qx qf vs3) (.tup []) (NmX u c C (addS qx nm) qf vs3):=fun u c o h=>Nadd_n h qx qf vs3 [nm] o (by omega) (by simp)
   simp only[g1,if_false,if_true]
   generalize addS qx nm=qx2 at w3 ⊢
   clear hk1
   refine SCalls.gs ?_
   refine G_enter Tryz.func63 rfl Tryz.ntmps63 rfl fun Q hQ hQe=>?_
   refine Kp_unpk C.bf 3 (T':=9) (sz:=1) [(0,9,1),(1,9,1),(2,9,1),(6,3,1),(7,3,1)] (NmX_bf hnd) rfl (by simp) (by simp) ?_
   intro o1 hO1 _
   rw[NmX_ok]at hO1
   obtain⟨hnoo1,hO1⟩:=hO1
   rw[NmX_own hnoo1,NmX_setf hnd]
   simp only[List.set,hls,hlc,hlh]at hO1 ⊢
   have mhO1f15:=hO1.not (f15)
   have mhO1f13:=hO1.not (f13)
   have mhO1f14:=hO1.not (f14)
   have mhO1f8:=hO1.not (f8)
   have mhO1f7:=hO1.not (f7)
   refine Kp_unpk C.bf 7 (T':=3) (sz:=1) [(0,9,1),(1,9,1),(2,9,1),(6,3,1)] (NmX_bf hnd) rfl (by simp) (by simp) ?_
   intro o2 hO2 _
   rw[NmX_ok]at hO2
   obtain⟨hnoo2,hO2⟩:=hO2
   rw[NmX_own hnoo2,NmX_setf hnd]
   simp only[List.set,hls,hlc,hlh]at hO2 ⊢
   have mhO2f15:=hO2.not (by rw[own_rd mhO1f15];exact f15)
   have mhO2f13:=hO2.not (by rw[own_rd mhO1f13];exact f13)
   have mhO2f14:=hO2.not (by rw[own_rd mhO1f14];exact f14)
   have mhO2f8:=hO2.not (by rw[own_rd mhO1f8];exact f8)
   have mhO2f7:=hO2.not (by rw[own_rd mhO1f7];exact f7)
   have hO2b:=own_bs hO2
   have hq14:(t.own o2 3 1 qh.length) b14≠.free:=by rw[own_rd_ok hO2b f14];exact f14
   have hq8:(t.own o2 3 1 qh.length) b8≠.free:=by rw[own_rd_ok hO2b f8];exact f8
   (repeat'(first|refine Ctl ?_|((with_reducible refine Kof.use hK ?_);clear hK hE K E)|((with_reducible refine W_cond (fun h=>?_) (fun h=>?_))<;>(try(exfalso;assumption)))|((first|(with_reducible first|refine G_region fun K E hK hE=>?_|refine call_ret can61 (w1 _ _ _ (z_nfr hfr)) ?_|refine call_ret can61 (w2 _ _ _ (z_nfr hfr)) ?_|refine call_ret can61 (w3 _ _ _ (z_nfr hfr)) ?_)|((with_reducible refine W_fresh (fun b hb=>?_));(repeat(obtain⟨_,hb⟩:=hb));(try(obtain⟨_,_⟩:=nef hb f15;obtain⟨_,_⟩:=nef hb f13;obtain⟨_,_⟩:=nef hb f14;obtain⟨_,_⟩:=nef hb f8;obtain⟨_,_⟩:=nef hb f7)))|((with_reducible refine W_app (fun o2 ho=>?_));(try simp(disch:=assumption) only[disown_set,disown_own,ownok_o,ownok_m,List.length_map,List.length_cons,List.length_nil,Nat.zero_add,hls,hlc,hlh,hal,NmX_dis,NmX_ok,or_true,true_or,if_true,disown_other]at ho);(repeat(obtain⟨_,ho⟩:=ho));(try(have _:=own_bs ho))))<;>(try simp(disch:=first|assumption|omega) only[go_sem,seval,hls,hlc,hlh,hal,NmX_dis,NmX_ok,or_true,true_or,if_true,disown_other, *]))))
   all_goals(refine W_norm res63 hQ ?_)
   all_goals exact⟨_,_,Wk.refl _,NmX_fg (by assumption) (by first|exact hb|(simp(disch:=assumption) only[own_rd];exact hb)),_,
    (NmX_pack (i:=7) (l:=natsL qh++[[.int .i64 n]]) (rs':=[(0,9,1),(1,9,1),(2,9,1),(6,3,1),(7,3,1)]) hnd (by assumption) (by assumption) (by simp[natsL_len]) rfl (by simp)).trans
     (NmX_pack (i:=3) (l:=strs qc++[[.str txt]]) (rs':=rsF) hnd (by assumption) (own_bs (by assumption)) (by simp[strsl_len]) rfl (by simp)),rfl,by simp only[fctC,fctV,strs_snoc,natsL_snoc,List.set_cons_succ,List.set_cons_zero]⟩
  ·have g5:(k=5)=False:=eq_false hk5
   by_cases hk6:k=6
   ·subst hk6
    simp only[g1,g5,if_false,if_true]
    clear hk1 hk5
    refine SCalls.gs ?_
    refine G_enter Tryz.func63 rfl Tryz.ntmps63 rfl fun Q hQ hQe=>?_
    refine Kp_unpk C.bf 3 (T':=9) (sz:=1) [(0,9,1),(1,9,1),(2,9,1),(6,3,1),(7,3,1)] (NmX_bf hnd) rfl (by simp) (by simp) ?_
    intro o1 hO1 _
    rw[NmX_ok]at hO1
    obtain⟨hnoo1,hO1⟩:=hO1
    rw[NmX_own hnoo1,NmX_setf hnd]
    simp only[List.set,hls,hlc,hlh]at hO1 ⊢
    have mhO1f15:=hO1.not (f15)
    have mhO1f13:=hO1.not (f13)
    have mhO1f14:=hO1.not (f14)
    have mhO1f8:=hO1.not (f8)
    have mhO1f7:=hO1.not (f7)
    refine Kp_unpk C.bf 7 (T':=3) (sz:=1) [(0,9,1),(1,9,1),(2,9,1),(6,3,1)] (NmX_bf hnd) rfl (by simp) (by simp) ?_
    intro o2 hO2 _
    rw[NmX_ok]at hO2
    obtain⟨hnoo2,hO2⟩:=hO2
    rw[NmX_own hnoo2,NmX_setf hnd]
    simp only[List.set,hls,hlc,hlh]at hO2 ⊢
    have mhO2f15:=hO2.not (by rw[own_rd mhO1f15];exact f15)
    have mhO2f13:=hO2.not (by rw[own_rd mhO1f13];exact f13)
    have mhO2f14:=hO2.not (by rw[own_rd mhO1f14];exact f14)
    have mhO2f8:=hO2.not (by rw[own_rd mhO1f8];exact f8)
    have mhO2f7:=hO2.not (by rw[own_rd mhO1f7];exact f7)
    have hO2b:=own_bs hO2
    have hq14:(t.own o2 3 1 qh.length) b14≠.free:=by rw[own_rd_ok hO2b f14];exact f14
    have hq8:(t.own o2 3 1 qh.length) b8≠.free:=by rw[own_rd_ok hO2b f8];exact f8
    (repeat'(first|refine Ctl ?_|((with_reducible refine Kof.use hK ?_);clear hK hE K E)|((with_reducible refine W_cond (fun h=>?_) (fun h=>?_))<;>(try(exfalso;assumption)))|((first|(with_reducible first|refine G_region fun K E hK hE=>?_|refine call_ret can61 (w1 _ _ _ (z_nfr hfr)) ?_|refine call_ret can61 (w2 _ _ _ (z_nfr hfr)) ?_)|((with_reducible refine W_fresh (fun b hb=>?_));(repeat(obtain⟨_,hb⟩:=hb));(try(obtain⟨_,_⟩:=nef hb f15;obtain⟨_,_⟩:=nef hb f13;obtain⟨_,_⟩:=nef hb f14;obtain⟨_,_⟩:=nef hb f8;obtain⟨_,_⟩:=nef hb f7)))|((with_reducible refine W_app (fun o2 ho=>?_));(try simp(disch:=assumption) only[disown_set,disown_own,ownok_o,ownok_m,List.length_map,List.length_cons,List.length_nil,Nat.zero_add,hls,hlc,hlh,hal,NmX_dis,NmX_ok,or_true,true_or,if_true,disown_other]at ho);(repeat(obtain⟨_,ho⟩:=ho));(try(have _:=own_bs ho))))<;>(try simp(disch:=first|assumption|omega) only[go_sem,seval,hls,hlc,hlh,hal,NmX_dis,NmX_ok,or_true,true_or,if_true,disown_other, *]))))
    all_goals(refine W_norm res63 hQ ?_)
    all_goals exact⟨_,_,Wk.refl _,NmX_fg (by assumption) (by first|exact hb|(simp(disch:=assumption) only[own_rd];exact hb)),_,
     (NmX_pack (i:=7) (l:=natsL qh++[[.int .i64 n]]) (rs':=[(0,9,1),(1,9,1),(2,9,1),(6,3,1),(7,3,1)]) hnd (by assumption) (by assumption) (by simp[natsL_len]) rfl (by simp)).trans
      (NmX_pack (i:=3) (l:=strs qc++[[.str txt]]) (rs':=rsF) hnd (by assumption) (own_bs (by assumption)) (by simp[strsl_len]) rfl (by simp)),rfl,by simp only[fctC,fctV,strs_snoc,natsL_snoc,List.set_cons_succ,List.set_cons_zero]⟩
   ·have g6:(k=6)=False:=eq_false hk6
    by_cases hk34:k=3∨k=4
    ·have w3:∀(u:St) (c:Cell) (o:Own),NFr u C.l→SRet Tryz.prog 61 [.ptr C.xf 0,.lst [[.str nm]] o] (NmX u c C qx qf vs3) (.tup []) (NmX u c C qx (addS qf nm) vs3):=fun u c o h=>Nadd_f h qx qf vs3 [nm] o (by omega) (by simp)
     rw[if_neg hk1,if_neg hk5,if_neg hk6,if_pos hk34]
     generalize addS qf nm=qf2 at w3 ⊢
     clear hk1 hk5 hk6
     rcases hk34 with rfl|rfl
     all_goals
      refine G_enter Tryz.func63 rfl Tryz.ntmps63 rfl fun Q hQ hQe=>?_
      (repeat'(first|refine Ctl ?_|((with_reducible refine Kof.use hK ?_);clear hK hE K E)|((with_reducible refine W_cond (fun h=>?_) (fun h=>?_))<;>(try(exfalso;assumption)))|((first|(with_reducible first|refine G_region fun K E hK hE=>?_|refine call_ret can61 (w1 _ _ _ (z_nfr hfr)) ?_|refine call_ret can61 (w2 _ _ _ (z_nfr hfr)) ?_|refine call_ret can61 (w3 _ _ _ (z_nfr hfr)) ?_)|((with_reducible refine W_fresh (fun b hb=>?_));(repeat(obtain⟨_,hb⟩:=hb));(try(obtain⟨_,_⟩:=nef hb f15;obtain⟨_,_⟩:=nef hb f13;obtain⟨_,_⟩:=nef hb f14;obtain⟨_,_⟩:=nef hb f8;obtain⟨_,_⟩:=nef hb f7))))<;>(try simp(disch:=first|assumption|omega) only[go_sem,seval,hls,hlc,hlh,hal,NmX_dis,NmX_ok,or_true,true_or,if_true, *]))))
     all_goals(refine W_norm res63 hQ ?_)
     all_goals exact⟨_,_,Wk.refl _,NmX_fg (by assumption) (by exact hb),rfl,rfl⟩
    ·rw[if_neg hk1,if_neg hk5,if_neg hk6,if_neg hk34]
     obtain⟨hk3,hk4⟩:=not_or.1 hk34
     have g3:(k=3)=False:=eq_false hk3
     have g4:(k=4)=False:=eq_false hk4
     clear hk1 hk5 hk6 hk34 hk3 hk4
     refine G_enter Tryz.func63 rfl Tryz.ntmps63 rfl fun Q hQ hQe=>?_
     (repeat'(first|refine Ctl ?_|((with_reducible refine Kof.use hK ?_);clear hK hE K E)|((with_reducible refine W_cond (fun h=>?_) (fun h=>?_))<;>(try(exfalso;assumption)))|((first|(with_reducible first|refine G_region fun K E hK hE=>?_|refine call_ret can61 (w1 _ _ _ (z_nfr hfr)) ?_|refine call_ret can61 (w2 _ _ _ (z_nfr hfr)) ?_)|((with_reducible refine W_fresh (fun b hb=>?_));(repeat(obtain⟨_,hb⟩:=hb));(try(obtain⟨_,_⟩:=nef hb f15;obtain⟨_,_⟩:=nef hb f13;obtain⟨_,_⟩:=nef hb f14;obtain⟨_,_⟩:=nef hb f8;obtain⟨_,_⟩:=nef hb f7))))<;>(try simp(disch:=first|assumption|omega) only[go_sem,seval,hls,hlc,hlh,hal,NmX_dis,NmX_ok,or_true,true_or,if_true, *]))))
     all_goals(refine W_norm res63 hQ ?_)
     all_goals exact⟨_,_,Wk.refl _,NmX_fg (by assumption) (by exact hb),rfl,rfl⟩
end Go.Proofs.YtgdbgfjhenobdaaGreatDoor
namespace Go.Proofs.YtgdbgfjhenobdaaGreatDoor
open Go.RowKit
mutual
theorem preS_len:∀(x:Stm) (dp:Nat),okS x dp=true→(preS x).length≤totS x
 |.mk k d s c m ar o t,dp,hk=>by
  simp only[okS,Bool.and_eq_true]at hk
  obtain⟨hm,hk⟩:=hk
  simp only[preS,totS,List.length_cons,List.length_append]
  by_cases h8:k=8
  ·subst h8
   simp only[if_true,Bool.and_eq_true]at hk ⊢
   have:=preL_len o _ hk.1.2
   have:=preL_len t _ hk.2
   omega
  ·by_cases h9:k=9
   ·subst h9
    simp only[show ¬ (9:Int)=8 by decide,if_false,if_true,Bool.and_eq_true]at hk ⊢
    have htn:t=[]:=by
     unfold mayB at hm
     simp only[show ¬ (9:Int)=8 by decide,if_false,if_true,Bool.and_eq_true,List.isEmpty_iff]at hm
     exact hm.2
    subst htn
    have:=preL_len o _ hk.2
    simp only[preL,List.length_nil]
    omega
   ·have hon:o=[]∧t=[]:=by
     unfold mayB at hm
     simp only[h8,h9,if_false,Bool.and_eq_true,List.isEmpty_iff]at hm
     exact⟨hm.1.1.1,hm.1.1.2⟩
    obtain⟨rfl,rfl⟩:=hon
    simp[preL]
theorem preL_len:∀(l:List Stm) (dp:Nat),okA l dp=true→(preL l).length≤totL l
 |[],_,_=>by simp[preL]
 |x::l,dp,hk=>by
  simp only[okA,Bool.and_eq_true]at hk
  have:=preS_len x dp hk.1
  have:=preL_len l dp hk.2
  simp only[preL,totL,List.length_append]
  omega
end
theorem body_len {x:List Cls}(h:checkB x=true)(c:Cls)(hc:c∈x)(m:Mth)(hm:m∈c.mths):(preL m.body).length≤1024:=by
 unfold checkB at h
 simp only[Bool.and_eq_true,decide_eq_true_eq,List.all_eq_true]at h
 obtain⟨⟨h1,h2⟩,h3,h4⟩:=h
 have hmm:=allM_mem hc hm
 have ht:=totM_mem hmm
 have hl:=preL_len m.body 1 (h3 m hmm)
 omega
def szN (a:Nms×List (List UInt8)):Nat:=a.2.length+a.1.sites.length+a.1.calls.length+a.1.home.length+a.1.names.length+a.1.fields.length
theorem addS_len (l:List (List UInt8))(x:List UInt8):(addS l x).length≤l.length+1:=addsS_len l [x]
theorem stmN_sz (txt:List UInt8)(n:Nat)(a:Nms×List (List UInt8))(x:Stm)(hx:argOk x):szN (stmN txt n a x)≤szN a+200000:=by
 obtain⟨k,d,s,c,m,ar,o,t⟩:=x
 have ha:ar.length≤100000:=hx
 have h1:=addsS_len a.2 (d::s::ar)
 have h2:=addS_len a.1.names m
 have h3:=addS_len a.1.fields m
 simp only[List.length_cons]at h1
 simp only[stmN]
 split
 ·simp only[szN,List.length_append,List.length_cons,List.length_nil];omega
 ·split
  ·simp only[szN,List.length_append,List.length_cons,List.length_nil];omega
  ·split
   ·simp only[szN,List.length_append,List.length_cons,List.length_nil];omega
   ·split
    ·simp only[szN,List.length_append,List.length_cons,List.length_nil];omega
    ·simp only[szN];omega
theorem Cneach (C:B7)(b15 b13 b14 b8 b7:Nat)(txt:List UInt8)(n:Nat) :
  EachOk 63 [.ptr b15 0,.ptr C.bf 0,.ptr b13 0,.ptr b14 0,.ptr b8 0,.ptr b7 0] (fun t=>NmB t C b15 b13 b14 b8 b7 txt n) (fun(a:Nms×List (List UInt8)) t=>NmX t (.pk 26 (fctC a.1) rsF) C a.1.names a.1.fields a.2) (stmN txt n) argOk (fun k a=>szN a+k * 200000≤900000000000):=by
 refine⟨fun t a b c hB hb=>?_,fun t a b c hB hb=>?_,fun t a a' b hB hb=>?_,fun a x k hg hi=>?_,fun a k hi=>?_,fun t a s k hB hg hi=>?_⟩
 ·rw[NmX_free]at hb
  have hf:∀b',t b'≠.free→(t.set b c) b'=t b':=fun b' h=>St.set_other _ _ (nef hb.2 h).1
  exact⟨hB.fr.set hb.1,(hf _ (by rw[hB.h15];simp)).trans hB.h15,(hf _ (by rw[hB.h13];simp)).trans hB.h13,(hf _ (by rw[hB.h14];simp)).trans hB.h14,(hf _ (by rw[hB.h8];simp)).trans hB.h8,(hf _ (by rw[hB.h7];simp)).trans hB.h7⟩
 ·rw[NmX_free]at hb
  exact(NmX_set hb.1).symm
 ·rw[NmX_free]at hb ⊢
  exact hb
 ·have h1:=stmN_sz txt n a x hg
  have h2:szN a+(k+1) * 200000≤900000000000:=hi
  show szN (stmN txt n a x)+k * 200000≤900000000000
  omega
 ·have h2:szN a+(k+1) * 200000≤900000000000:=hi
  exact Nat.le_trans (Nat.add_le_add_left (Nat.mul_le_mul_right 200000 (Nat.le_succ k)) (szN a)) h2
 ·obtain⟨k',d,sr,cn,nm,ar,o,t2⟩:=s
  obtain⟨q,vs⟩:=a
  have h2:vs.length+q.sites.length+q.calls.length+q.home.length+q.names.length+q.fields.length+(k+1) * 200000≤900000000000:=hi
  clear hi
  have g1:vs.length≤900000000000:=by omega
  have g2:q.sites.length≤900000000000:=by omega
  have g3:q.calls.length≤900000000000:=by omega
  have g4:q.home.length≤900000000000:=by omega
  have g5:q.names.length≤900000000000:=by omega
  have g6:q.fields.length≤900000000000:=by omega
  exact Cn1_S t C b15 b13 b14 b8 b7 txt n hB q vs k' d sr cn nm ar o t2 hg g1 g2 g3 g4 g5 g6
theorem Cneach_S (t:St)(C:B7)(b15 b13 b14 b8 b7:Nat)(txt:List UInt8)(n:Nat)(q:Nms)(vs:List (List UInt8))(l:List Stm)(hl:LOk argOk l)(hs:szN (q,vs)+(preL l).length * 200000≤900000000000)(hB:NmB t C b15 b13 b14 b8 b7 txt n) :
  SRet Tryz.prog 62 [.lst (stsC l) .no,.fn 63 [.ptr b15 0,.ptr C.bf 0,.ptr b13 0,.ptr b14 0,.ptr b8 0,.ptr b7 0]] (NmX t (.pk 26 (fctC q) rsF) C q.names q.fields vs) (.tup [])
   (NmX t (.pk 26 (fctC ((preL l).foldl (stmN txt n) (q,vs)).1) rsF) C ((preL l).foldl (stmN txt n) (q,vs)).1.names ((preL l).foldl (stmN txt n) (q,vs)).1.fields ((preL l).foldl (stmN txt n) (q,vs)).2):=
 Ceach_S 63 _ _ _ _ _ _ can63 (Cneach C b15 b13 b14 b8 b7 txt n) (szL l+1) l (Nat.lt_succ_self _) hl t (q,vs) hB hs
theorem stms_sz (txt:List UInt8)(n:Nat):∀(l:List Stm) (a:Nms×List (List UInt8)),(∀x,x∈l→argOk x)→szN (l.foldl (stmN txt n) a)≤szN a+l.length * 200000
 |[],a,_=>by simp
 |x::l,a,h=>by
  have h1:=stms_sz txt n l (stmN txt n a x) (fun y hy=>h y (by simp[hy]))
  have h2:=stmN_sz txt n a x (h x (by simp))
  simp only[List.foldl_cons,List.length_cons]
  omega
theorem stms_other (txt:List UInt8)(n:Nat):∀(l:List Stm) (a:Nms×List (List UInt8)),(l.foldl (stmN txt n) a).1.mths=a.1.mths∧(l.foldl (stmN txt n) a).1.vars=a.1.vars∧(l.foldl (stmN txt n) a).1.owner=a.1.owner∧(l.foldl (stmN txt n) a).1.main=a.1.main
 |[],a=>⟨rfl,rfl,rfl,rfl⟩
 |x::l,a=>by
  have h1:=stms_other txt n l (stmN txt n a x)
  have h2:(stmN txt n a x).1.mths=a.1.mths∧(stmN txt n a x).1.vars=a.1.vars∧(stmN txt n a x).1.owner=a.1.owner∧(stmN txt n a x).1.main=a.1.main:=by
   obtain⟨k,d,s,c,m,ar,o,t⟩:=x
   simp only[stmN]
   repeat' split
   all_goals exact⟨rfl,rfl,rfl,rfl⟩
  simp only[List.foldl_cons]
  exact⟨h1.1.trans h2.1,h1.2.1.trans h2.2.1,h1.2.2.1.trans h2.2.2.1,h1.2.2.2.trans h2.2.2.2⟩
def szA (q:Nms):Nat:=q.mths.length+q.vars.length+q.owner.length+q.sites.length+q.calls.length+q.home.length+q.names.length+q.fields.length
theorem vars0_len (m:Mth)(h:m.pars.length≤8):(vars0 m).length≤10:=by
 unfold vars0
 have h1:=addsS_len (addsS (if m.stat=true then [] else addsS [] [selfT]) m.pars) [retT]
 have h2:=addsS_len (if m.stat=true then [] else addsS [] [selfT]) m.pars
 have h3:(if m.stat=true then [] else addsS [] [selfT]).length≤1:=by split<;>simp[addsS,addS] ;split<;>simp
 simp only[List.length_cons,List.length_nil]at h1
 omega
attribute [local go_sem] p_enil1 p_enil2 p_nilE one_nil Nm2_set Nm2_gt Nm2_bf Nm2_setf Nm2_own Nm2_dis Nm2_ownd Nm2_ok Nm2_free NmX_set NmX_gt NmX_bf NmX_setf NmX_own NmX_dis NmX_ownd NmX_ok NmX_free
theorem Cright2_S (x:List Cls)(hx:SrcOk x)(h0:rightE x=0)(t:St):SCalls Tryz.prog 60 [srcV x] t fun w u=>∃a:Nat,w=.ret (.tup [.ptr a 0,.int .i64 0])∧u=t∧True:=by
 refine SCalls.gs ?_
 refine(Cright_S x hx t).mono fun w u h=>?_
 obtain⟨p,bm,h1,h2,h3⟩:=h.2 h0
 exact⟨t,GS.of_fg h3,p,h1,rfl,trivial⟩
def fctN (q:Nms):List VV:=[.lst (strs q.mths) .no,.lst (strs q.vars) .no,.lst (strs q.sites) .no,.lst (strs q.calls) .no,.lst (strs q.fields) .no,.lst (strs q.names) .no,.lst (natsL q.owner) .no,.lst (natsL q.home) .no,.int .i64 (q.main:Int),.lst [] .full,.lst [] .full,.lst [] .full,.lst [] .full,.lst [] .full,.lst [] .full,.lst [] .full,.lst [] .full,.lst [] .full,.lst [] .full,.lst [] .full,.lst [] .full]
def namesR (x:List Cls):Nms:=if rightE x=0 then namesN x else nms0
theorem GS.fct0 {T:St}{b:Nat}(h:T b=.obj 26 [.lst [] .full,.lst [] .full,.lst [] .full,.lst [] .full,.lst [] .full,.lst [] .full,.lst [] .full,.lst [] .full,.int .i64 0,.lst [] .full,.lst [] .full,.lst [] .full,.lst [] .full,.lst [] .full,.lst [] .full,.lst [] .full,.lst [] .full,.lst [] .full,.lst [] .full,.lst [] .full,.lst [] .full]):GS T (T.set b (.pk 26 (fctC nms0) rsF)):=by
 have hd:∀t:St,t.disown .full=t:=fun _=>rfl
 have g0:=GS.topk h
 have g1:=GS.pack (i:=0) (l:=[]) (o:=.full) (T':=9) (sz:=1) (rs':=[(0,9,1)]) (St.set_same T b (.pk 26 [.lst [] .full,.lst [] .full,.lst [] .full,.lst [] .full,.lst [] .full,.lst [] .full,.lst [] .full,.lst [] .full,.int .i64 0,.lst [] .full,.lst [] .full,.lst [] .full,.lst [] .full,.lst [] .full,.lst [] .full,.lst [] .full,.lst [] .full,.lst [] .full,.lst [] .full,.lst [] .full,.lst [] .full] [])) rfl rfl (by simp)
 rw[hd,St.set_set]at g1
 have g2:=GS.pack (i:=1) (l:=[]) (o:=.full) (T':=9) (sz:=1) (rs':=[(0,9,1),(1,9,1)]) (St.set_same T b (.pk 26 [.lst [] .no,.lst [] .full,.lst [] .full,.lst [] .full,.lst [] .full,.lst [] .full,.lst [] .full,.lst [] .full,.int .i64 0,.lst [] .full,.lst [] .full,.lst [] .full,.lst [] .full,.lst [] .full,.lst [] .full,.lst [] .full,.lst [] .full,.lst [] .full,.lst [] .full,.lst [] .full,.lst [] .full] [(0,9,1)])) rfl rfl (by simp)
 rw[hd,St.set_set]at g2
 have g3:=GS.pack (i:=2) (l:=[]) (o:=.full) (T':=9) (sz:=1) (rs':=[(0,9,1),(1,9,1),(2,9,1)]) (St.set_same T b (.pk 26 [.lst [] .no,.lst [] .no,.lst [] .full,.lst [] .full,.lst [] .full,.lst [] .full,.lst [] .full,.lst [] .full,.int .i64 0,.lst [] .full,.lst [] .full,.lst [] .full,.lst [] .full,.lst [] .full,.lst [] .full,.lst [] .full,.lst [] .full,.lst [] .full,.lst [] .full,.lst [] .full,.lst [] .full] [(0,9,1),(1,9,1)])) rfl rfl (by simp)
 rw[hd,St.set_set]at g3
 have g4:=GS.pack (i:=3) (l:=[]) (o:=.full) (T':=9) (sz:=1) (rs':=[(0,9,1),(1,9,1),(2,9,1),(3,9,1)]) (St.set_same T b (.pk 26 [.lst [] .no,.lst [] .no,.lst [] .no,.lst [] .full,.lst [] .full,.lst [] .full,.lst [] .full,.lst [] .full,.int .i64 0,.lst [] .full,.lst [] .full,.lst [] .full,.lst [] .full,.lst [] .full,.lst [] .full,.lst [] .full,.lst [] .full,.lst [] .full,.lst [] .full,.lst [] .full,.lst [] .full] [(0,9,1),(1,9,1),(2,9,1)])) rfl rfl (by simp)
 rw[hd,St.set_set]at g4
 have g5:=GS.pack (i:=6) (l:=[]) (o:=.full) (T':=3) (sz:=1) (rs':=[(0,9,1),(1,9,1),(2,9,1),(3,9,1),(6,3,1)]) (St.set_same T b (.pk 26 [.lst [] .no,.lst [] .no,.lst [] .no,.lst [] .no,.lst [] .full,.lst [] .full,.lst [] .full,.lst [] .full,.int .i64 0,.lst [] .full,.lst [] .full,.lst [] .full,.lst [] .full,.lst [] .full,.lst [] .full,.lst [] .full,.lst [] .full,.lst [] .full,.lst [] .full,.lst [] .full,.lst [] .full] [(0,9,1),(1,9,1),(2,9,1),(3,9,1)])) rfl rfl (by simp)
 rw[hd,St.set_set]at g5
 have g6:=GS.pack (i:=7) (l:=[]) (o:=.full) (T':=3) (sz:=1) (rs':=[(0,9,1),(1,9,1),(2,9,1),(3,9,1),(6,3,1),(7,3,1)]) (St.set_same T b (.pk 26 [.lst [] .no,.lst [] .no,.lst [] .no,.lst [] .no,.lst [] .full,.lst [] .full,.lst [] .no,.lst [] .full,.int .i64 0,.lst [] .full,.lst [] .full,.lst [] .full,.lst [] .full,.lst [] .full,.lst [] .full,.lst [] .full,.lst [] .full,.lst [] .full,.lst [] .full,.lst [] .full,.lst [] .full] [(0,9,1),(1,9,1),(2,9,1),(3,9,1),(6,3,1)])) rfl rfl (by simp)
 rw[hd,St.set_set]at g6
 exact g0.trans (g1.trans (g2.trans (g3.trans (g4.trans (g5.trans g6)))))
theorem GS.set0 {T:St}{xb bm:Nat}(h:T xb=.obj 145 [.lst [] .full,.mp bm]):GS T (T.set xb (.pk 145 [.lst (strs []) .no,.mp bm] rsSt)):=by
 have hd:∀t:St,t.disown .full=t:=fun _=>rfl
 have g0:=GS.topk h
 have g1:=GS.pack (i:=0) (l:=[]) (o:=.full) (T':=9) (sz:=1) (rs':=rsSt) (St.set_same T xb (.pk 145 [.lst [] .full,.mp bm] [])) rfl rfl (by simp)
 rw[hd,St.set_set]at g1
 exact g0.trans g1
theorem Nm2_start {T:St}{B:B5}{b7 b8:Nat}{c7 c8:Cell}(hn:B.l.Nodup)(h7:NA b7 B.l)(h8:NA b8 B.l)(h78:¬ b7=b8) :
  GS (((((((T.set B.bf (.obj 26 [.lst [] .full,.lst [] .full,.lst [] .full,.lst [] .full,.lst [] .full,.lst [] .full,.lst [] .full,.lst [] .full,.int .i64 0,.lst [] .full,.lst [] .full,.lst [] .full,.lst [] .full,.lst [] .full,.lst [] .full,.lst [] .full,.lst [] .full,.lst [] .full,.lst [] .full,.lst [] .full,.lst [] .full])).set B.bm (.map [])).set B.xf (.obj 145 [.lst [] .full,.mp B.bm])).set B.bn (.map [])).set B.xn (.obj 145 [.lst [] .full,.mp B.bn])).set b7 c7).set b8 c8)
   (Nm2 ((T.set b7 c7).set b8 c8) (.pk 26 (fctC nms0) rsF) B [] []):=by
 obtain⟨⟨q1,q2,q3,q4⟩,⟨q5,q6,q7⟩,⟨q8,q9⟩,q10⟩:=nd5 hn
 obtain⟨r1,r2,r3,r4,r5⟩:=NA5 h7
 obtain⟨s1,s2,s3,s4,s5⟩:=NA5 h8
 have q1':=Ne.symm q1;have q2':=Ne.symm q2;have q3':=Ne.symm q3;have q4':=Ne.symm q4;have q5':=Ne.symm q5;have q6':=Ne.symm q6;have q7':=Ne.symm q7;have q8':=Ne.symm q8;have q9':=Ne.symm q9;have q10':=Ne.symm q10
 have r1':=Ne.symm r1;have r2':=Ne.symm r2;have r3':=Ne.symm r3;have r4':=Ne.symm r4;have r5':=Ne.symm r5
 have s1':=Ne.symm s1;have s2':=Ne.symm s2;have s3':=Ne.symm s3;have s4':=Ne.symm s4;have s5':=Ne.symm s5
 have h78':=Ne.symm h78
 generalize hS:(((((((T.set B.bf (.obj 26 [.lst [] .full,.lst [] .full,.lst [] .full,.lst [] .full,.lst [] .full,.lst [] .full,.lst [] .full,.lst [] .full,.int .i64 0,.lst [] .full,.lst [] .full,.lst [] .full,.lst [] .full,.lst [] .full,.lst [] .full,.lst [] .full,.lst [] .full,.lst [] .full,.lst [] .full,.lst [] .full,.lst [] .full])).set B.bm (.map [])).set B.xf (.obj 145 [.lst [] .full,.mp B.bm])).set B.bn (.map [])).set B.xn (.obj 145 [.lst [] .full,.mp B.bn])).set b7 c7).set b8 c8)=S
 have a1:=GS.fct0 (T:=S) (b:=B.bf) (by subst hS;simp[St.set, *])
 have a2:=GS.set0 (T:=S.set B.bf (.pk 26 (fctC nms0) rsF)) (xb:=B.xf) (bm:=B.bm) (by subst hS;simp[St.set, *])
 have a3:=GS.set0 (T:=(S.set B.bf (.pk 26 (fctC nms0) rsF)).set B.xf (.pk 145 [.lst (strs []) .no,.mp B.bm] rsSt)) (xb:=B.xn) (bm:=B.bn) (by subst hS;simp[St.set, *])
 have he:((S.set B.bf (.pk 26 (fctC nms0) rsF)).set B.xf (.pk 145 [.lst (strs []) .no,.mp B.bm] rsSt)).set B.xn (.pk 145 [.lst (strs []) .no,.mp B.bn] rsSt)=Nm2 ((T.set b7 c7).set b8 c8) (.pk 26 (fctC nms0) rsF) B [] []:=by
  funext z
  subst hS
  unfold Nm2 Stm1
  simp only[St.set]
  by_cases e1:z=B.bf
  ·subst e1;simp[*]
  by_cases e2:z=B.bm
  ·subst e2;simp[*,isA,pairsA,mpV]
  by_cases e3:z=B.xf
  ·subst e3;simp[*]
  by_cases e4:z=B.bn
  ·subst e4;simp[*,isA,pairsA,mpV]
  by_cases e5:z=B.xn
  ·subst e5;simp[*]
  simp[*]
 rw[he]at a3
 exact a1.trans (a2.trans a3)
theorem Nm2_start1 {T:St}{bf xn bn xf bm:Nat}{b7 b8:Nat}{c7 c8:Cell}(hn:[bf,xn,bn,xf,bm].Nodup)(h7:∀x,x∈[bf,xn,bn,xf,bm]→¬ b7=x∧¬ x=b7)(h8:∀x,x∈[bf,xn,bn,xf,bm]→¬ b8=x∧¬ x=b8)(h78:¬ b7=b8) :
  GS (((((((T.set bf (.obj 26 [.lst [] .full,.lst [] .full,.lst [] .full,.lst [] .full,.lst [] .full,.lst [] .full,.lst [] .full,.lst [] .full,.int .i64 0,.lst [] .full,.lst [] .full,.lst [] .full,.lst [] .full,.lst [] .full,.lst [] .full,.lst [] .full,.lst [] .full,.lst [] .full,.lst [] .full,.lst [] .full,.lst [] .full])).set bm (.map [])).set xf (.obj 145 [.lst [] .full,.mp bm])).set bn (.map [])).set xn (.obj 145 [.lst [] .full,.mp bn])).set b7 c7).set b8 c8)
   (Nm2 ((T.set b7 c7).set b8 c8) (.pk 26 (fctC nms0) rsF) ⟨bf,xn,bn,xf,bm⟩ [] []):=Nm2_start (B:=⟨bf,xn,bn,xf,bm⟩) hn h7 h8 h78
theorem NmX_start {V:St}{c:Cell}{B:B5}{xv bv b:Nat}{z:Cell}{ns fs:List (List UInt8)}(h1:NA xv B.l)(h2:NA bv B.l)(h3:¬ bv=xv)(h4:¬ b=xv)(h5:¬ b=bv) :
  GS (Nm2 (((V.set bv (.map [])).set xv (.obj 145 [.lst [] .full,.mp bv])).set b z) c B ns fs) (NmX (V.set b z) c ⟨B,xv,bv⟩ ns fs []):=by
 have a:=GS.set0 (T:=Nm2 (((V.set bv (.map [])).set xv (.obj 145 [.lst [] .full,.mp bv])).set b z) c B ns fs) (xb:=xv) (bm:=bv) (by
  rw[Nm2_gt h1,St.set_other _ _ (fun e=>h4 e.symm),St.set_same])
 have he:(Nm2 (((V.set bv (.map [])).set xv (.obj 145 [.lst [] .full,.mp bv])).set b z) c B ns fs).set xv (.pk 145 [.lst (strs []) .no,.mp bv] rsSt)=NmX (V.set b z) c ⟨B,xv,bv⟩ ns fs []:=by
  unfold NmX Stm1
  simp only
  rw[Nm2_set h1,Nm2_set h2,Nm2_set h1]
  congr 1
  funext y
  simp only[St.set]
  have h3':¬ xv=bv:=fun e=>h3 e.symm
  have h4':¬ xv=b:=fun e=>h4 e.symm
  have h5':¬ bv=b:=fun e=>h5 e.symm
  by_cases e1:y=xv
  ·subst e1;simp[*]
  by_cases e2:y=bv
  ·subst e2;simp[*,isA,pairsA,mpV]
  simp[*]
 rw[he]at a
 exact a
theorem NFr7 {U:St}{B:B5}{xv bv:Nat}(h:NFr U B.l)(h1:NA xv B.l)(h2:NA bv B.l)(h3:¬ bv=xv)(f1:U xv=.free)(f2:U bv=.free):NFr U (B7.l ⟨B,xv,bv⟩):=by
 obtain⟨r1,r2,r3,r4,r5⟩:=NA5 h1
 obtain⟨s1,s2,s3,s4,s5⟩:=NA5 h2
 have hn:=h.nd
 refine⟨?_,fun b hb=>?_⟩
 ·simp only[B7.l,B5.l]at hn ⊢
  have h3':¬ xv=bv:=fun e=>h3 e.symm
  rw[List.nodup_cons,List.nodup_cons]
  refine⟨?_,?_,hn⟩<;>simp[*]
 ·simp only[B7.l,List.mem_cons]at hb
  rcases hb with rfl|rfl|hb
  ·exact f1
  ·exact f2
  ·exact h.fr b (by simpa [B5.l]using hb)
theorem NmX_gt3 {t:St}{c:Cell}{B:B5}{xv bv b:Nat}{ns fs vs:List (List UInt8)}(h:NA b B.l)(h1:¬ b=xv)(h2:¬ b=bv):(NmX t c ⟨B,xv,bv⟩ ns fs vs) b=t b:=by
 unfold NmX;simp only;rw[Stm1_gt h1 h2,Nm2_gt h]
theorem NmX_xv3 {t:St}{c:Cell}{B:B5}{xv bv:Nat}{ns fs vs:List (List UInt8)}:(NmX t c ⟨B,xv,bv⟩ ns fs vs) xv=.pk 145 [.lst (strs vs) .no,.mp bv] rsSt:=by
 unfold NmX;exact Stm1_at
theorem Nadd_0 {V:St}{c:Cell}{B:B5}{xv bv b:Nat}{z:Cell}{ns fs ts:List (List UInt8)}{o:Own}(ht:ts.length≤100000)(hf:NFr V B.l)(h1:NA xv B.l)(h2:NA bv B.l)(hb:NA b B.l)(h3:¬ bv=xv)(h4:¬ b=xv)(h5:¬ b=bv)(f1:V xv=.free)(f2:V bv=.free) :
  SRet Tryz.prog 61 [.ptr xv 0,.lst (ts.map strC) o] (Nm2 (((V.set bv (.map [])).set xv (.obj 145 [.lst [] .full,.mp bv])).set b z) c B ns fs) (.tup []) (NmX (V.set b z) c ⟨B,xv,bv⟩ ns fs (addsS [] ts)):=
 fun w0 G w vs hS hR=>Nadd_v (C:=⟨B,xv,bv⟩) (NFr7 (hf.set hb) h1 h2 h3 (by rw[St.set_other _ _ (fun e=>h4 e.symm)];exact f1) (by rw[St.set_other _ _ (fun e=>h5 e.symm)];exact f2)) ns fs [] ts o (by simp) ht w0 G w vs (NmX_start h1 h2 h3 h4 h5 _ _ _ hS) hR
theorem NO7' {o:Own}{B:B5}{xv bv:Nat}(h:NO o B.l)(h1:NotOwn o xv)(h2:NotOwn o bv):NO o (B7.l ⟨B,xv,bv⟩):=by
 intro b hb
 simp only[B7.l,List.mem_cons]at hb
 rcases hb with rfl|rfl|hb
 ·exact h1
 ·exact h2
 ·exact h b (by simpa [B5.l]using hb)
abbrev rs5:List (Nat×TypeId×Nat):=[(1,9,1),(2,9,1),(3,9,1),(6,3,1),(7,3,1)]
theorem Cneach1 {U:St}{o:Own}{N:Nat}{B:B5}{xv bv b12 b13 b14 b15 b8 b7:Nat}{d12:Cell}{txt:List UInt8}{n:Nat}(q:Nms)(vs:List (List UInt8))(l:List Stm)(hl:LOk argOk l)(hs:szN (q,vs)+(preL l).length * 200000≤900000000000)(hN:q.mths.length=N)
  (hO:OwnOk U o N) (g1:NO o B.l) (g2:NotOwn o xv) (g3:NotOwn o bv) (g4:NotOwn o b12) (g5:NotOwn o b13) (g6:NotOwn o b14) (g7:NotOwn o b15)
  (hU:NFr U B.l) (k1:NA xv B.l) (k2:NA bv B.l) (k3:NA b12 B.l) (k4:NA b13 B.l) (k5:NA b14 B.l) (k6:NA b15 B.l) (h3:¬ bv=xv) (f1:U xv=.free) (f2:U bv=.free)
  (e1:¬ xv=b12) (e2:¬ xv=b13) (e3:¬ xv=b14) (e4:¬ xv=b15) (e5:¬ bv=b12) (e6:¬ bv=b13) (e7:¬ bv=b14) (e8:¬ bv=b15)
  (e9:¬ b13=b14) (e10:¬ b13=b15) (e11:¬ b14=b15) (h8:U b8=.obj 142 [.ptr B.xn 0]) (h7:U b7=.obj 142 [.ptr B.xf 0])
  (m1:¬ b8=b12) (m2:¬ b8=b13) (m3:¬ b8=b14) (m4:¬ b8=b15) (m5:¬ b7=b12) (m6:¬ b7=b13) (m7:¬ b7=b14) (m8:¬ b7=b15) :
  SRet Tryz.prog 62 [.lst (stsC l) .no,.fn 63 [.ptr b15 0,.ptr B.bf 0,.ptr b13 0,.ptr b14 0,.ptr b8 0,.ptr b7 0]]
   (NmX (((((U.own o 9 1 N).set b12 d12).set b13 (.obj 9 [.str txt])).set b14 (.obj 3 [.int .i64 (n:Int)])).set b15 (.obj 142 [.ptr xv 0]))
    (.pk 26 (fctV (.lst (strs q.mths) o) (.lst (strs q.vars) .no) (.lst (strs q.sites) .no) (.lst (strs q.calls) .no) (.lst (natsL q.owner) .no) (.lst (natsL q.home) .no) (.int .i64 (q.main:Int))) rs5) ⟨B,xv,bv⟩ q.names q.fields vs) (.tup [])
   (NmX ((((U.set b12 d12).set b13 (.obj 9 [.str txt])).set b14 (.obj 3 [.int .i64 (n:Int)])).set b15 (.obj 142 [.ptr xv 0]))
    (.pk 26 (fctC ((preL l).foldl (stmN txt n) (q,vs)).1) rsF) ⟨B,xv,bv⟩ ((preL l).foldl (stmN txt n) (q,vs)).1.names ((preL l).foldl (stmN txt n) (q,vs)).1.fields ((preL l).foldl (stmN txt n) (q,vs)).2):=by
 intro w0 G w ws hS hR
 have hfr:=NFr7 ((((hU.set (c:=d12) k3).set (c:=.obj 9 [.str txt]) k4).set (c:=.obj 3 [.int .i64 (n:Int)]) k5).set (c:=.obj 142 [.ptr xv 0]) k6) k1 k2 h3
  (by simp only[St.set,e1,e2,e3,e4,if_false];exact f1) (by simp only[St.set,e5,e6,e7,e8,if_false];exact f2)
 refine Cneach_S _ ⟨B,xv,bv⟩ b15 b13 b14 b8 b7 txt n q vs l hl hs ⟨hfr,St.set_same _ _ _,by simp[St.set,e9,e10],by simp[St.set,e11],by simp[St.set,m1,m2,m3,m4,h8],by simp[St.set,m5,m6,m7,m8,h7]⟩ w0 G w ws ?_ hR
 rw[← own_push g4,← own_push g5,← own_push g6,← own_push g7]at hS
 have hO2:OwnOk ((((U.set b12 d12).set b13 (.obj 9 [.str txt])).set b14 (.obj 3 [.int .i64 (n:Int)])).set b15 (.obj 142 [.ptr xv 0])) o N:=by
  cases o with
  |at_ z=>
   have i4:¬ z=b12:=fun e=>g4 e.symm
   have i5:¬ z=b13:=fun e=>g5 e.symm
   have i6:¬ z=b14:=fun e=>g6 e.symm
   have i7:¬ z=b15:=fun e=>g7 e.symm
   simp only[OwnOk,St.set,i4,i5,i6,i7,if_false]at hO ⊢
   exact hO
  |_=>exact hO
 exact NmX_pack (C:=⟨B,xv,bv⟩) (i:=0) (l:=strs q.mths) (rs':=rsF) hfr.nd (NO7' g1 g2 g3) hO2 (by rw[strsl_len];exact hN) rfl (by simp) w0 G w hS
def mcount (l:List Cls):Nat:=(l.map (·.mths.length)).sum
structure NTop (T t:St) (B:B5) (b2 b7 b8:Nat):Prop where
 fr:NFr T B.l
 h2:T b2=.obj 26 [.lst [] .full,.lst [] .full,.lst [] .full,.lst [] .full,.lst [] .full,.lst [] .full,.lst [] .full,.lst [] .full,.int .i64 0,.lst [] .full,.lst [] .full,.lst [] .full,.lst [] .full,.lst [] .full,.lst [] .full,.lst [] .full,.lst [] .full,.lst [] .full,.lst [] .full,.lst [] .full,.lst [] .full]
 h7:T b7=.obj 142 [.ptr B.xf 0]
 h8:T b8=.obj 142 [.ptr B.xn 0]
 fg:Fg T t
 z2:t b2=.free
theorem mcount_le:∀l:List Cls,(∀c,c∈l→c.mths.length≤32)→mcount l≤32 * l.length
 |[],_=>by simp[mcount]
 |c::l,h=>by
  have h1:=h c (by simp)
  have h2:=mcount_le l fun c hc=>h c (by simp[hc])
  simp only[mcount,List.map_cons,List.sum_cons,List.length_cons]at *
  omega
theorem mcount_drop {l:List Cls}{i:Nat}{c:Cls}(h:l[i]?=some c):mcount (l.drop i)=c.mths.length+mcount (l.drop (i+1)):=by
 have hlt:=(List.getElem?_eq_some_iff.1 h).1
 have hx:l[i]=c:=by rw[List.getElem?_eq_getElem hlt]at h;injection h
 rw[List.drop_eq_getElem_cons hlt,hx]
 simp[mcount]
theorem adds_mem {l ts:List (List UInt8)}{v:List UInt8}(h:v∈addsS l ts):v∈l∨v∈ts:=by
 induction ts generalizing l with
 |nil=>exact .inl h
 |cons x ts ih=>
  have h':v∈addsS (addS l x) ts:=h
  rcases ih h' with h1|h1
  ·unfold addS at h1
   split at h1
   ·exact .inl h1
   ·rcases List.mem_append.1 h1 with h2|h2
    ·exact .inl h2
    ·exact .inr (by simp only[List.mem_singleton]at h2;simp[h2])
  ·exact .inr (by simp[h1])
theorem stms_mem (txt:List UInt8)(n:Nat){v:List UInt8}:∀(l:List Stm) (a:Nms×List (List UInt8)),v∈(l.foldl (stmN txt n) a).2→v∈a.2∨∃y,y∈l∧v∈stTxt y
 |[],a,h=>.inl h
 |x::l,a,h=>by
  rcases stms_mem txt n l (stmN txt n a x) h with h1|⟨y,hy,h1⟩
  ·have h2:(stmN txt n a x).2=addsS a.2 (stTxt x):=by
    obtain⟨k,d,s,c,m,ar,o,t⟩:=x
    simp only[stmN,stTxt]
    repeat' split
    all_goals rfl
   rw[h2]at h1
   rcases adds_mem h1 with h3|h3
   ·exact .inl h3
   ·exact .inr ⟨x,by simp,h3⟩
  ·exact .inr ⟨y,by simp[hy],h1⟩
mutual
theorem preS_ok:∀(x:Stm),StmOk x→∀y,y∈preS x→StmOk y
 |.mk k d s c m ar o t,h,y,hy=>by
  have h':=h
  simp only[StmOk]at h'
  simp only[preS,List.mem_cons,List.mem_append]at hy
  rcases hy with rfl|hy|hy
  ·exact h
  ·exact preL_ok o h'.2.2.1.2 y hy
  ·exact preL_ok t h'.2.2.2.2 y hy
theorem preL_ok:∀(l:List Stm),StmsOk l→∀y,y∈preL l→StmOk y
 |[],_,y,hy=>by cases hy
 |x::l,h,y,hy=>by
  simp only[StmsOk]at h
  simp only[preL,List.mem_append]at hy
  rcases hy with hy|hy
  ·exact preS_ok x h.1 y hy
  ·exact preL_ok l h.2 y hy
end
theorem vs_le {txt:List UInt8}{n:Nat}{q:Nms}{m:Mth}(h:MthOk m):∀v,v∈((preL m.body).foldl (stmN txt n) (q,vars0 m)).2→v.length≤140737488355328:=by
 intro v hv
 rcases stms_mem txt n _ _ hv with h1|⟨y,hy,h1⟩
 ·unfold vars0 at h1
  rcases adds_mem h1 with h1|h1
  ·rcases adds_mem h1 with h1|h1
   ·split at h1
    ·cases h1
    ·rcases adds_mem h1 with h1|h1
     ·cases h1
     ·simp only[List.mem_singleton]at h1;subst h1;decide
   ·exact h.2.1.2 v h1
  ·simp only[List.mem_singleton]at h1;subst h1;decide
 ·have hk:=preL_ok _ h.2.2.2 y hy
  obtain⟨k,d,s,c,m,ar,o,t⟩:=y
  simp only[StmOk]at hk
  simp only[stTxt,List.mem_cons]at h1
  rcases h1 with rfl|rfl|h1
  ·exact hk.1.1
  ·exact hk.1.2.1
  ·exact hk.2.1.2 v h1
theorem stms_v (txt:List UInt8)(n:Nat):∀(l:List Stm) (a:Nms×List (List UInt8)),(∀x,x∈l→argOk x)→(l.foldl (stmN txt n) a).2.length≤a.2.length+l.length * 200000
 |[],a,_=>by simp
 |x::l,a,h=>by
  have h1:=stms_v txt n l (stmN txt n a x) (fun y hy=>h y (by simp[hy]))
  have h2:(stmN txt n a x).2.length≤a.2.length+200000:=by
   have h3:=h x (by simp)
   obtain⟨k,d,s,c,m,ar,o,t⟩:=x
   have ha:ar.length≤100000:=h3
   have h4:=addsS_len a.2 (d::s::ar)
   simp only[List.length_cons]at h4
   simp only[stmN]
   repeat' split
   all_goals(simp only;omega)
  simp only[List.foldl_cons,List.length_cons]
  omega
theorem mthN_sz (c:Cls)(q:Nms)(m:Mth)(hp:m.pars.length≤8)(hb:LOk argOk m.body)(hl:(preL m.body).length≤1024):szA (mthN c q m)≤szA q+420000000:=by
 have hv:=vars0_len m hp
 simp only[mthN]
 generalize hq1:({ q with mths:=q.mths++[mthT c m],main:=if mthT c m=[77,97,105,110,58,58,109,97,105,110] then q.mths.length else q.main }:Nms)=q1
 have h1:=stms_sz (mthT c m) q.mths.length (preL m.body) (q1,vars0 m) (fun x hx=>(hb.all x hx).1)
 have h2:=stms_other (mthT c m) q.mths.length (preL m.body) (q1,vars0 m)
 have h6:=stms_v (mthT c m) q.mths.length (preL m.body) (q1,vars0 m) (fun x hx=>(hb.all x hx).1)
 generalize (preL m.body).foldl (stmN (mthT c m) q.mths.length) (q1,vars0 m)=r at h1 h2 h6 ⊢
 obtain⟨h2,h3,h4,h5⟩:=h2
 subst hq1
 simp only[szN]at h1
 simp only at h2 h3 h4 h5 h6
 simp only[szA,h2,h3,h4,List.length_append,List.length_map,List.length_cons,List.length_nil]
 omega
theorem Nadd_1 {V:St}{c:Cell}{B:B5}{xv bv:Nat}{ns fs vs ts:List (List UInt8)}{o:Own}(ht:ts.length≤100000)(hl:vs.length≤1000000000000)(hf:NFr V B.l)(h1:NA xv B.l)(h2:NA bv B.l)(h3:¬ bv=xv)(f1:V xv=.free)(f2:V bv=.free) :
  SRet Tryz.prog 61 [.ptr xv 0,.lst (ts.map strC) o] (NmX V c ⟨B,xv,bv⟩ ns fs vs) (.tup []) (NmX V c ⟨B,xv,bv⟩ ns fs (addsS vs ts)):=
 Nadd_v (C:=⟨B,xv,bv⟩) (NFr7 hf h1 h2 h3 f1 f2) ns fs vs ts o hl ht
structure NLp (V U:St) (B:B5) (xv bv b13 b14:Nat) (txt:List UInt8) (n:Nat):Prop where
 fr:NFr V (B7.l ⟨B,xv,bv⟩)
 h13:V b13=.obj 9 [.str txt]
 h14:V b14=.obj 3 [.int .i64 (n:Int)]
 fg:Fg V U
theorem NmX_fg2 {V U:St}{c:Cell}{B:B5}{xv bv:Nat}{ns fs vs:List (List UInt8)}(h:NFr V (B7.l ⟨B,xv,bv⟩))(hf:Fg V U):Fg (NmX V c ⟨B,xv,bv⟩ ns fs vs) (Nm2 U c B ns fs):=by
 have hn:=nd7 h.nd
 obtain⟨⟨q0,q1,q2,q3,q4,q5⟩,⟨r1,r2,r3,r4,r5⟩,_⟩:=hn
 have f1:V xv=.free:=h.fr xv (by simp[B7.l])
 have f2:V bv=.free:=h.fr bv (by simp[B7.l])
 have g1:NA xv B.l:=fun x hx=>⟨fun e=>by
  subst e
  simp only[B5.l,List.mem_cons,List.not_mem_nil,or_false]at hx
  rcases hx with e|e|e|e|e
  ·exact q1 e
  ·exact q2 e
  ·exact q3 e
  ·exact q4 e
  ·exact q5 e,fun e=>by
  subst e
  simp only[B5.l,List.mem_cons,List.not_mem_nil,or_false]at hx
  rcases hx with e|e|e|e|e
  ·exact q1 e
  ·exact q2 e
  ·exact q3 e
  ·exact q4 e
  ·exact q5 e⟩
 have g2:NA bv B.l:=fun x hx=>⟨fun e=>by
  subst e
  simp only[B5.l,List.mem_cons,List.not_mem_nil,or_false]at hx
  rcases hx with e|e|e|e|e
  ·exact r1 e
  ·exact r2 e
  ·exact r3 e
  ·exact r4 e
  ·exact r5 e,fun e=>by
  subst e
  simp only[B5.l,List.mem_cons,List.not_mem_nil,or_false]at hx
  rcases hx with e|e|e|e|e
  ·exact r1 e
  ·exact r2 e
  ·exact r3 e
  ·exact r4 e
  ·exact r5 e⟩
 have k1:Fg (NmX V c ⟨B,xv,bv⟩ ns fs vs) (Nm2 V c B ns fs):=by
  unfold NmX Stm1
  exact Fg.setA (Fg.of_set _ (by rw[Nm2_gt g2];exact f2)) (by rw[Nm2_gt g1];exact f1)
 refine k1.trans ?_
 unfold Nm2 Stm1
 exact((((hf.set _ _).set _ _).set _ _).set _ _).set _ _
theorem Nm2_fg {V U:St}{c:Cell}{B:B5}{ns fs:List (List UInt8)}(hf:Fg V U):Fg (Nm2 V c B ns fs) (Nm2 U c B ns fs):=by
 unfold Nm2 Stm1
 exact((((hf.set _ _).set _ _).set _ _).set _ _).set _ _
theorem NmX_bf3 {t:St}{c:Cell}{B:B5}{xv bv:Nat}{ns fs vs:List (List UInt8)}(h:(B7.l ⟨B,xv,bv⟩).Nodup):(NmX t c ⟨B,xv,bv⟩ ns fs vs) B.bf=c:=NmX_bf (C:=⟨B,xv,bv⟩) h
theorem NmX_setf3 {t:St}{c d:Cell}{B:B5}{xv bv:Nat}{ns fs vs:List (List UInt8)}(h:(B7.l ⟨B,xv,bv⟩).Nodup):(NmX t c ⟨B,xv,bv⟩ ns fs vs).set B.bf d=NmX t d ⟨B,xv,bv⟩ ns fs vs:=NmX_setf (C:=⟨B,xv,bv⟩) h
theorem Nm2_xf {t:St}{c:Cell}{B:B5}{ns fs:List (List UInt8)}:(Nm2 t c B ns fs) B.xf=.pk 145 [.lst (strs fs) .no,.mp B.bm] rsSt:=Stm1_at
theorem Nm2_xn {t:St}{c:Cell}{B:B5}{ns fs:List (List UInt8)}(h:B.l.Nodup):(Nm2 t c B ns fs) B.xn=.pk 145 [.lst (strs ns) .no,.mp B.bn] rsSt:=by
 obtain⟨_,⟨_,q6,q7⟩,_,_⟩:=nd5 h
 unfold Nm2
 rw[Stm1_gt q6 q7]
 exact Stm1_at
theorem Wk_fct0 {v:VV}:Wk (.tup [.agg [.lst [] .full,.lst [] .full,.lst [] .full,.lst [] .full,.lst [] .full,.lst [] .full,.lst [] .full,.lst [] .full,.int .i64 0,.lst [] .full,.lst [] .full,.lst [] .full,.lst [] .full,.lst [] .full,.lst [] .full,.lst [] .full,.lst [] .full,.lst [] .full,.lst [] .full,.lst [] .full,.lst [] .full],v]) (.tup [.agg (fctN nms0),v]):=
 Wk.tup rfl fun j x y hx hy=>by
  match j with
  |0=>
   simp only[List.getElem?_cons_zero,Option.some.injEq]at hx hy
   subst hx;subst hy
   exact Wk.agg (by unfold fctN;repeat(first|exact WkL.nil|apply WkL.same|apply WkL.lst))
  |1=>simp at hx hy;subst hx;subst hy;exact Wk.refl _
  |j+2=>simp at hx
theorem Nm2_fg0 {V t:St}{c:Cell}{B:B5}{ns fs:List (List UInt8)}(h:NFr V B.l)(hf:Fg V t):Fg (Nm2 V c B ns fs) t:=by
 have key:∀b,b∈B.l→t b=.free:=fun b hb=>by
  rcases hf b with e|e
  ·exact e
  ·rw[e];exact h.fr b hb
 unfold Nm2 Stm1
 exact Fg.setA (Fg.setA (Fg.setA (Fg.setA (Fg.setA hf (key _ (by simp[B5.l]))) (key _ (by simp[B5.l]))) (key _ (by simp[B5.l]))) (key _ (by simp[B5.l]))) (key _ (by simp[B5.l]))
end Go.Proofs.YtgdbgfjhenobdaaGreatDoor
