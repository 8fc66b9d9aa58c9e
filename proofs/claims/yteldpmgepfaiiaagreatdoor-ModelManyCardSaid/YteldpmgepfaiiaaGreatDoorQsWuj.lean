/- Walks of functions, and plain facts. Conditions: those in the statements. -/
import Derived.Test.YteldpmgepfaiiaaGreatDoorQsWrj
set_option linter.unusedSimpArgs false
set_option linter.unusedVariables false
set_option maxRecDepth 100000
namespace Go.Proofs.YteldpmgepfaiiaaGreatDoor
open Go.RowKit
attribute [local go_sem] aH aV cH
theorem kA {l:List Rul}{i:Nat}{x:Rul}(h:l[i]?=some x):(l.map ax)[i]?=some (ax x):=by rw[c_,h];rfl
def il (T:Tbs)(r:Rul)(vars:List (List UInt8))(l:List (List Int)):List (List Int):=(c6 (gvF vars r.head.ts l) [] (eT T vars r.body)).1
theorem gM {T:Tbs}{r:Rul}{vars:List (List UInt8)}{l:List (List Int)}:GvRun vars r.head.ts l [] (eT T vars r.body) (c6 (gvF vars r.head.ts l) [] (eT T vars r.body)):=vF List.nodup_nil (fun h hh=>by cases hh)
set_option maxHeartbeats 16000000 in
theorem CQ (x:Pgm)(p bm bz:Nat)(V:List (List (List UInt8)))(X:List Tab)(k:Nat)(r:Rul)(vars:List (List UInt8))(hi:Nat)(y:Tab)(hk:x.rules[k]?=some r)(hv:V[k]?=some vars)(hh:cO x.decls r.head.rel=some hi)(hy:X[hi]?=some y)
  (hrl:x.rules.length<=100000) (hVl:V.length=x.rules.length) (hbd:∀m,m∈r.body->MAtm x X vars m) (hbl:r.body.length<=100000) (hvl:vars.length<=100000) (hvn:vars.Nodup) (hXl:∀y,y∈X->y.l.length<=1000000000)
  (hf:ix vars vars.length r.head.ts) (htl:r.head.ts.length<=100000) (hnum:∀m,m∈r.head.ts->m.var=false->0<=m.n/\m.n<256) (hyl:y.l.length<=16384)
  (hg:RGood (bV x X) vars (ku vars) (cE r.body) (cU vars)) (t:St) (hM:MdAt t p bm bz x V X) :
  SCalls Tryz.prog 28 [.ptr p 0,.int .i64 (k:Int)] t fun w u=>∃u':St,w=.ret (.int .i64 (if 16384<(y.l++il (bV x X) r vars y.l).length then -1 else((il (bV x X) r vars y.l).length:Int)))/\u=u' /\
   ∃g',MdAt u' p bm bz x V (X.set hi ⟨y.b,y.m,g',y.l++il (bV x X) r vars y.l⟩)/\Keep t u' y.F/\(∀z,gi y.b y.m g' (y.l++il (bV x X) r vars y.l) z->y.F z\/t z=.free):=by
 obtain⟨hd,body⟩:=r
 simp only at hh hbd hbl hf htl hnum hg ⊢
 have hsr:=kA hk
 have hsv:(V.map fun v=>[VV.lst (aA v) .no])[k]?=some [.lst (aA vars) .no]:=by rw[c_,hv];rfl
 have hlr:(x.rules.map ax).length=x.rules.length:=by simp
 have hlv:(V.map fun v=>[VV.lst (aA v) .no]).length=x.rules.length:=by simp[hVl]
 have hklt:k<x.rules.length:=(n_.1 hk).1
 have hlk:=(j6 (cs:=x.decls) hd.rel).trans (by rw[hh];rfl:_=some (hi:Int))
 have hXk:(X.map fun y=>[VV.ptr y.b 0])[hi]?=some [.ptr y.b 0]:=by rw[c_,hy];rfl
 have hXkl:hi<(X.map fun y=>[VV.ptr y.b 0]).length:=(n_.1 hXk).1
 have hyT:=hM.tb.at_ y (p_ hy)
 have hys:=hyT.s
 have tell:=fun D=>D3 D hd body vars y hys hvl hf htl hnum hyl
 have q1:=hM.o
 have q2:=hM.h1
 have q3:=hyT.o
 have l1:t p≠.free:=by rw[q1];simp
 have l2:t bm≠.free:=by rw[q2];simp
 have l3:t y.b≠.free:=by rw[q3];simp
 have l4:t y.m≠.free:=by rw[hyT.h];simp
 have HSML:Hid (∀row,ku vars row->Sml (aU vars row hd.ts)):=u_ fun row h=>fH h.1 (by rw[h.2];exact hf) htl hnum
 have HM:=u_ hM
 have HY:=u_ hy
 have HBD:=u_ hbd
 have HG:=u_ hg
 have HV:=u_ hvn
 have HRUN:=u_ (gM (T:=bV x X) (r:=⟨hd,body⟩) (vars:=vars) (l:=y.l))
 have HYM:=u_ hyT.h
 have HYO:=u_ hyT.o
 generalize hAL:il (bV x X) ⟨hd,body⟩ vars y.l=AL
 have HAL:=u_ hAL
 simp only[ax]at hsr
 clear hk hv hh hy hbd hg hvn hyT hys hM hf hnum hAL
 generalize (V.map fun v=>[VV.lst (aA v) .no])=VL at *
 generalize X.map (fun y=>[VV.ptr y.b 0])=XL at *
 generalize rlA x.decls=RLA at *
 refine aw Tryz.func28 rfl Tryz.ntmps28 rfl fun Q hQ hQe=>?_
 (repeat'(first|refine Ctl ?_|(with_reducible first|(refine j_ hK ?_;clear hK hE K E)|(refine j_ hKh ?_;clear hKh Kh)|(refine j_ hKb (aL ?_);clear hKb Kb)|refine aq 3 [([0,1,2,3,4,5,6,7,8,9,10,11,12,13],14,[[0,1,2,3,4,5,6,7,8,9,10,11,12,13]]),([],15,[[],[]])] [] hQe fun K E hK hE=>?_)|((first|(with_reducible first|refine ae fun K E hK hE=>?_|refine aE fun Kh hKh=>?_|refine aD fun Kh hKh=>?_|refine aM fun Kb hKb=>?_)|((with_reducible refine ao (fun b hb=>?_));(repeat(obtain⟨_,hb⟩:=hb));(try(obtain⟨_,_⟩:=nef hb l1;obtain⟨_,_⟩:=nef hb l2;obtain⟨_,_⟩:=nef hb l3))))<;>(try simp(disch:=omega) only[go_sem,seval,hsr,hsv,hlr,hlv,hlk,hXk,Option.getD_some, *]))))
 rename_i br hbr _ _ _ _ _ _ bv _ _ hbv _ _ _ _ _ _ bt _ _ _ _ hbt _ _ _ _ _ _ ba _ _ _ _ _ _ hba _ _ _ _ _ _ mf _ _ _ _ _ _ _ _ hmf _ _ _ _ _ _ _ _ _ _ _ _ _ _ _ _ _ _ _ _ _ _
 obtain⟨bf,hbf'⟩:∃z,z=b:=⟨_,rfl⟩
 subst hbf'
 have hbf:=hb
 generalize hS6:(((((t.set br (.obj 43 [.bool hd.not,.str hd.rel,.lst (hd.ts.map aC) .no,.lst (body.map aG) .no])).set bv (.obj 64 [.lst (aA vars) .no])).set bt (.obj 78 [.ptr y.b 0])).set ba (.obj 44 [.lst [] .full])).set mf (.map [])).set bf (.obj 79 [.mp mf])=S6
 have z1:S6 br=.obj 43 (ax ⟨hd,body⟩):=by
  rw[<- hS6];simp only[St.set,if_true,if_false, *];rfl
 have z2:S6 bv=.obj 64 [.lst (aA vars) .no]:=by
  rw[<- hS6];simp only[St.set,if_true,if_false, *]
 have z3:S6 bt=.obj 78 [.ptr y.b 0]:=by
  rw[<- hS6];simp only[St.set,if_true,if_false, *]
 have z4:S6 ba=.obj 44 [.lst [] .full]:=by
  rw[<- hS6];simp only[St.set,if_true,if_false, *]
 have z5:S6 mf=.map []:=by
  rw[<- hS6];simp only[St.set,if_true,if_false, *]
 have z6:S6 bf=.obj 79 [.mp mf]:=by
  rw[<- hS6];simp only[St.set,if_true,if_false, *]
 have hk6:∀z,t z≠.free->S6 z=t z:=fun z hz=>by
  rw[<- hS6,k_ _ _ (aT hz hbf),k_ _ _ (aT hz hmf),k_ _ _ (aT hz hba),k_ _ _ (aT hz hbt),k_ _ _ (aT hz hbv),k_ _ _ (aT hz hbr)]
 clear hS6
 have hgs:=GS.rawnil (i:=0) z4 rfl
 have hne:∀z,t z≠.free->z≠ba:=fun z hz=>aT hz hba
 have y1:(S6.set ba (.obj 44 [.raw (.slice none 0 0)])) br=.obj 43 (ax ⟨hd,body⟩):=by rw[k_ _ _ (‹_›)];exact z1
 have y2:(S6.set ba (.obj 44 [.raw (.slice none 0 0)])) bv=.obj 64 [.lst (aA vars) .no]:=by rw[k_ _ _ (‹_›)];exact z2
 have y3:(S6.set ba (.obj 44 [.raw (.slice none 0 0)])) bt=.obj 78 [.ptr y.b 0]:=by rw[k_ _ _ (‹_›)];exact z3
 have y4:(S6.set ba (.obj 44 [.raw (.slice none 0 0)])) ba=.obj 44 [.raw (.slice none 0 0)]:=q_ _ _ _
 have y5:(S6.set ba (.obj 44 [.raw (.slice none 0 0)])) mf=.map []:=by rw[k_ _ _ (‹_›)];exact z5
 have y6:(S6.set ba (.obj 44 [.raw (.slice none 0 0)])) bf=.obj 79 [.mp mf]:=by rw[k_ _ _ (‹_›)];exact z6
 have HK7:Hid (∀z,t z≠.free->(S6.set ba (.obj 44 [.raw (.slice none 0 0)])) z=t z):=u_ fun z hz=>by rw[k_ _ _ (hne z hz)];exact hk6 z hz
 have hgs':GS S6 (S6.set ba (.obj 44 [.raw (.slice none 0 0)])):=hgs
 generalize S6.set ba (.obj 44 [.raw (.slice none 0 0)])=S7 at *
 have hP:GvP ⟨br,bv,bt,bf,ba,mf⟩ ⟨hd,body⟩ vars y [] S7 (GvF ⟨br,bv,bt,bf,ba,mf⟩ 0 []):=⟨0,⟨y1,y2,y3,y6,(HK7.out _ l3).trans HYO.out,(HK7.out _ l4).trans HYM.out,y4,y5,fun h=>absurd rfl h,fun e=>aT l4 hmf e.symm⟩,rfl⟩
 have hMM:MdAt S7 p bm bz x V X:=HM.out.keep fun z hz=>HK7.out z (HM.out.live hz)
 have hsep:∀z,GvF ⟨br,bv,bt,bf,ba,mf⟩ 0 [] z->¬ MdF p bm bz X z:=by
  rintro z (rfl|rfl|⟨h,_⟩) hz
  ·exact HM.out.live hz hba
  ·exact HM.out.live hz hmf
  ·exact h rfl
 have wc:=SCalls.pre (GSg.of_gs hgs') (EK (tell ⟨br,bv,bt,bf,ba,mf⟩) (fun r h=>h.1) ⟨hd,body⟩ HBD.out hbl hvl HV.out hXl p bm bz .no S7 [] _ hMM hP hsep ⟨(fun x hx=>by cases hx),by simp⟩ HG.out)
 rw[show (c6 (gvF vars hd.ts y.l) [] (eT (bV x X) vars body)).1=AL from HAL.out]at wc
 simp only[ax]at wc
 have HFR:Hid (t br=.free/\t bv=.free/\t bt=.free/\t ba=.free/\t mf=.free/\t bf=.free):=u_ ⟨hbr,hbv,hbt,hba,hmf,hbf⟩
 clear z1 z2 z3 z4 z5 z6 y1 y2 y3 y4 y5 y6 hk6 hgs hgs' hP hMM hsep hne tell hbr hbv hbt hba hmf hbf hb q1 q2 q3
 refine aO MC wc (fun S8 h=>?_)
 obtain⟨F',⟨g,g1,rfl⟩,g2,g3,g4⟩:=h
 have q3:=g1.t
 have q4:=g1.a
 have q5:=g1.g
 have hgf:AL≠[]->t g=.free:=fun h=>by
  have h2:=g2 g (.inr (.inr ⟨h,rfl⟩))
  have h3:S7 g=.free->t g=.free:=fun h4=>by
   by_cases h5:t g=.free
   ·exact h5
   ·rw[HK7.out g h5]at h4;exact absurd h4 h5
  rcases h2 with (h2|h2|⟨h2,_⟩)|h2
  ·rw[h2];exact HFR.out.2.2.2.1
  ·rw[h2];exact HFR.out.2.2.2.2.1
  ·exact absurd rfl h2
  ·exact h3 h2
 have hK8:∀z,t z≠.free->S8 z=t z:=fun z hz=>by
  rw[g4 z (by rw[HK7.out z hz];exact hz) (fun h=>by
   rcases h with h|h|⟨h,_⟩
   ·exact aT hz HFR.out.2.2.2.1 h
   ·exact aT hz HFR.out.2.2.2.2.1 h
   ·exact h rfl)]
  exact HK7.out z hz
 have HK8:=u_ hK8
 have HM8:=u_ g3
 have HGF:=u_ hgf
 have HQ5:=u_ q5
 have hYF:∀z,y.F z->t z≠.free:=fun z hz=>HM.out.tb.live ⟨y,p_ HY.out,hz⟩
 have HYF:=u_ hYF
 have hset0:X.set hi ⟨y.b,y.m,y.g,y.l⟩=X:=by
  obtain⟨h1,h2⟩:=n_.1 HY.out
  exact List.ext_getElem? fun j=>by
   by_cases e:hi=j
   ·subst e;rw[i_ h1,HY.out]
   ·rw[s_ e]
 have HSET0:=u_ hset0
 have hALl:AL.length<=20000:=by have:=HRUN.out.le (by simp;omega);rw[show (c6 (gvF vars (Rul.mk hd body).head.ts y.l) [] (eT (bV x X) vars (Rul.mk hd body).body)).1=AL from HAL.out]at this;omega
 clear wc g1 g2 g3 g4 q5 hgf hK8 hYF hset0 HK7
 simp only[go_sem,seval]
 (repeat'(first|refine Ctl ?_|((with_reducible refine j_ hK ?_);clear hK hE K E)|(((with_reducible refine ae fun K E hK hE=>?_))<;>(try simp(disch:=omega) only[go_sem,seval,dM, *]))))
 refine bB (fun m env s'=>∃(i:Nat) (g1:Nat),i<=AL.length/\m+i=AL.length/\Hid (MdAt s' p bm bz x V (X.set hi ⟨y.b,y.m,g1,y.l++AL.take i⟩))/\Hid (Keep t s' y.F)/\Hid (∀z,gi y.b y.m g1 (y.l++AL.take i) z->y.F z\/(t z=.free/\z≠g/\z≠bt/\z≠ba)) /\
  Hid (AL≠[]->s' g=.row 48 1 (AL.map ca))/\s' bt=.obj 78 [.ptr y.b 0]/\s' ba=.obj 44 [eu AL g]/\env 7=.ptr bt 0/\env 8=.ptr ba 0/\env 47=eu AL g/\env 48=.int .i64 AL.length/\env 49=.int .i64 i) AL.length ?_ ?_
 ·exact⟨0,y.g,by omega,by omega,u_ (by rw[List.take_zero,List.append_nil,HSET0.out];exact HM8.out),u_ (fun z hz _=>HK8.out z hz),u_ (fun z hz=>.inl (by rw[List.take_zero,List.append_nil]at hz;exact hz)),HQ5,q3,q4,ab,ab,ab,ab,ab⟩
 clear q3 q4 HK8 HM8 HQ5 HSET0
 rintro m env S ⟨i,g1,hi',hm,HMS,HKS,HTF,HQ5,q3,q4,e7,e8,e47,e48,e49⟩
 by_cases hlt:i<AL.length
 ·obtain⟨rr,hrr⟩:=aN hlt
  have hrf:=kC (l:=AL) (g:=g) (by omega)
  rw[hrf]at e47
  have hsr2:=wI hrr
  have q5:=HQ5.out (by intro h;rw[h]at hlt;simp at hlt)
  have hml:(AL.map ca).length=AL.length:=by simp
  have hAL':(c6 (gvF vars hd.ts y.l) [] (eT (bV x X) vars body)).1=AL:=HAL.out
  have hrs:Sml rr:=by
   have h1:=HRUN.out.src rr (by rw[show (c6 (gvF vars (Rul.mk hd body).head.ts y.l) [] (eT (bV x X) vars (Rul.mk hd body).body)).1=AL from HAL.out];exact p_ hrr)
   rcases h1 with h1|⟨row,hrow,rfl⟩
   ·cases h1
   ·exact HSML.out row (HG.out.rows (ns:=cK body) hrow)
  have hnd:AL.Nodup:=by rw[<- hAL'];exact HRUN.out.nd
  have hni:rr∉y.l++AL.take i:=fun h=>by
   rcases l_.1 h with h|h
   ·exact HRUN.out.dj rr (by rw[show (c6 (gvF vars (Rul.mk hd body).head.ts y.l) [] (eT (bV x X) vars (Rul.mk hd body).body)).1=AL from HAL.out];exact p_ hrr) h
   ·obtain⟨j,hj⟩:=h_.1 h
    have hji:j<i:=by have:=(n_.1 hj).1;rw[A_]at this;omega
    rw[List.getElem?_take_of_lt hji]at hj
    obtain⟨a1,a2⟩:=n_.1 hj
    obtain⟨b1,b2⟩:=n_.1 hrr
    exact List.pairwise_iff_getElem.1 hnd j i a1 b1 hji (a2.trans b2.symm)
  have hTA:=HMS.out.tb.at_ ⟨y.b,y.m,g1,y.l++AL.take i⟩ (p_ (i_ (n_.1 HY.out).1))
  have wa:=wd S y.b y.m g1 (y.l++AL.take i) rr hTA hrs (by rw[d_,A_];omega)
  rw[show og rr (y.l++AL.take i)=y.l++AL.take (i+1) by rw[og,if_neg hni,bY hrr,List.append_assoc]]at wa
  have wb:=SCalls.mono wa (fun w u h=>by
   obtain⟨g',h1,h2⟩:=h
   exact(⟨u,h1,rfl,g',h2⟩:∃u':St,w=_/\u=u'/\∃g',TabAt u' y.b y.m g' (y.l++AL.take (i+1))/\Keep S u' (gi y.b y.m g1 (y.l++AL.take i))/\∀z,gi y.b y.m g' (y.l++AL.take (i+1)) z->gi y.b y.m g1 (y.l++AL.take i) z\/S z=.free))
  unfold ca at wb
  have HRR:=u_ hrr
  clear hrr hAL' hrs hnd hni hTA wa
  (repeat'(first|refine Ctl ?_|((with_reducible refine j_ hK ?_);clear hK hE K E)|((with_reducible refine aj (fun h=>?_) (fun h=>?_))<;>(try(exfalso;assumption)))|((first|(with_reducible first|refine ae fun K E hK hE=>?_|refine gh ?_)|((with_reducible refine aO BX (wb) (fun a h=>?_))))<;>(try simp(disch:=omega) only[go_sem,seval,hml,hsr2,Nat.mul_one, *]))))
  obtain⟨g',c1,c2,c3⟩:=h
  have hgg:∀z,S z≠.free->t z=.free->(z=g\/z=bt\/z=ba)->a z=S z:=fun z hz ht hc=>c2 z hz fun hF=>by
   rcases HTF.out z hF with h|⟨_,h1,h2,h3⟩
   ·exact HYF.out z h ht
   ·rcases hc with h|h|h
    ·exact h1 h
    ·exact h2 h
    ·exact h3 h
  have hSg:S g≠.free:=by rw[q5];simp
  have hSt:S bt≠.free:=by rw[q3];simp
  have hSa:S ba≠.free:=by rw[q4];simp
  have hm2:=HMS.out.upd (i_ (n_.1 HY.out).1) c1 c2 c3
  rw[List.set_set]at hm2
  refine⟨m - 1,by omega,i+1,g',by omega,by omega,u_ hm2,u_ (HKS.out.trans c2 fun x hx hF=>(HTF.out x hF).resolve_right fun h=>hx h.1),u_ fun z hz=>?_,
   u_ fun _=>(hgg g hSg (HGF.out (by intro h;rw[h]at hlt;simp at hlt)) (.inl rfl)).trans q5,(hgg bt hSt HFR.out.2.2.1 (.inr (.inl rfl))).trans q3,(hgg ba hSa HFR.out.2.2.2.1 (.inr (.inr rfl))).trans q4,ab,ab,by rw[hrf];((try simp(disch:=first|assumption|omega) only[go_sem,seval, *])<;>first|rfl|omega),ab,ab⟩
  rcases c3 z hz with h|h
  ·exact HTF.out z h
  ·by_cases h1:t z=.free
   ·exact .inr ⟨h1,fun e=>hSg (e ▸ h),fun e=>hSt (e ▸ h),fun e=>hSa (e ▸ h)⟩
   ·by_cases h2:y.F z
    ·exact .inl h2
    ·rw[HKS.out z h1 h2]at h
     exact absurd h h1
 ·obtain rfl:i=AL.length:=by omega
  have hTA:=HMS.out.tb.at_ ⟨y.b,y.m,g1,y.l++AL.take AL.length⟩ (p_ (i_ (n_.1 HY.out).1))
  have q6:=hTA.o
  rw[f_]at HMS HTF q6
  simp only at q6
  clear hTA
  by_cases hbig:16384<(y.l++AL).length
  ·have hbig':((16384:Int)<((y.l++AL).length:Int))=True:=eq_true (by omega)
   (repeat'(first|refine Ctl ?_|((with_reducible refine j_ hK ?_);clear hK hE K E)|((with_reducible refine aj (fun h=>?_) (fun h=>?_))<;>(try(exfalso;assumption)))|(((with_reducible refine ae fun K E hK hE=>?_))<;>(try simp(disch:=omega) only[go_sem,seval,dM,hbig', *]))))
   all_goals(refine ap AK hQ ?_)
   rw[if_pos hbig]
   exact⟨_,_,Wk.refl _,Fg.refl _,_,rfl,rfl,g1,HMS.out,HKS.out,fun z hz=>(HTF.out z hz).imp id And.left⟩
  ·have hbig':((16384:Int)<((y.l++AL).length:Int))=False:=eq_false (by omega)
   (repeat'(first|refine Ctl ?_|((with_reducible refine j_ hK ?_);clear hK hE K E)|((with_reducible refine aj (fun h=>?_) (fun h=>?_))<;>(try(exfalso;assumption)))|(((with_reducible refine ae fun K E hK hE=>?_))<;>(try simp(disch:=omega) only[go_sem,seval,dM,hbig', *]))))
   all_goals(refine ap AK hQ ?_)
   rw[if_neg hbig]
   exact⟨_,_,Wk.refl _,Fg.refl _,_,rfl,rfl,g1,HMS.out,HKS.out,fun z hz=>(HTF.out z hz).imp id And.left⟩
end Go.Proofs.YteldpmgepfaiiaaGreatDoor
namespace Go.Proofs.YteldpmgepfaiiaaGreatDoor
open Go.RowKit
structure Tbl where
 nm:List UInt8
 rs:List (List Int)
def aX (t:Tbl):List VV:=[.str t.nm,.lst (aF t.rs) .no]
theorem dZ {l:List Tbl}{i:Nat}{x:Tbl}(h:l[i]?=some x):(l.map aX)[i]?=some (aX x):=by rw[c_,h];rfl
def fw (ds:List Dm):List (List UInt8)->List Int->Bool
 |d::l,n::r=>decide (0<=n) && decide (n<da ds d) && fw ds l r
 |_,_=>true
def hdB (q:Option (List Int))(r:List Int):Bool:=match q with
 |none=>true
 |some q=>decide (cA q r<0)
def dC (ds:List Dm)(dd:List (List UInt8)):Option (List Int)->List (List Int)->Bool
 |_,[]=>true
 |q,r::l=>decide (r.length=dd.length) && hdB q r && fw ds dd r && dC ds dd (some r) l
def cQ (x:Pgm):List (List UInt8)->List Tbl->Bool
 |_,[]=>true
 |seen,t::l=>match cO x.decls t.nm with
  |none=>false
  |some k=>match x.decls[k]? with
   |none=>false
   |some d=>!decide (t.nm∈seen) && dC x.doms d.doms none t.rs && cQ x (seen++[t.nm]) l
def aW (l:List Tbl)(n:List UInt8):List (List Int):=match l.find? (fun t=>decide (t.nm=n))with
 |some t=>t.rs
 |none=>[]
def gH (ns:List (List UInt8)):List (List UInt8×Bool):=ns.map fun n=>(n,true)
theorem tg {n:List UInt8}:∀{ns:List (List UInt8)},lkA n (gH ns)=if n∈ns then some true else none
 |[]=>by simp[gH,lkA]
 |a::l=>by
  have ih:=tg (n:=n) (ns:=l)
  simp only[gH,List.map_cons,lkA]at ih ⊢
  by_cases h:n=a
  ·simp[h]
  ·rw[if_neg h,ih];simp[h]
theorem sX {n:List UInt8}:∀{ns:List (List UInt8)},n∉ns->ptA n true (gH ns)=gH (ns++[n])
 |[],_=>by simp[gH,ptA]
 |a::l,hn=>by
  have ih:=sX (n:=n) (ns:=l) fun h=>hn (by simp[h])
  have h:¬ n=a:=fun e=>hn (by simp[e])
  simp only[gH,List.map_cons,ptA,List.cons_append]at ih ⊢
  rw[if_neg h,ih]
theorem tD {ds:List Dm}{dd:List (List UInt8)}{rs:List (List Int)}{j:Nat}{r:List Int}{q:Option (List Int)}(h:rs[j]?=some r):dC ds dd q (rs.drop j)=(decide (r.length=dd.length) && hdB q r && fw ds dd r && dC ds dd (some r) (rs.drop (j+1))):=by
 obtain⟨h1,rfl⟩:=n_.1 h
 rw[g_ h1]
 rfl
theorem mK {ds:List Dm}{dd:List (List UInt8)}{r:List Int}{j:Nat}{d:List UInt8}{n:Int}(h1:dd[j]?=some d)(h2:r[j]?=some n):fw ds (dd.drop j) (r.drop j)=(decide (0<=n) && decide (n<da ds d) && fw ds (dd.drop (j+1)) (r.drop (j+1))):=by
 obtain⟨a1,rfl⟩:=n_.1 h1
 obtain⟨a2,rfl⟩:=n_.1 h2
 rw[g_ a1,g_ a2]
 rfl
theorem iS {ds:List Dm}:∀{dd:List (List UInt8)} {r:List Int},fw ds dd r=true->r.length=dd.length->∀(j:Nat) (d:List UInt8) (n:Int),dd[j]?=some d->r[j]?=some n->0<=n/\n<da ds d
 |[],r,_,_,j,d,n,h1,_=>by simp at h1
 |d0::dd,[],_,hl,_,_,_,_,_=>by simp at hl
 |d0::dd,n0::r,h,hl,0,d,n,h1,h2=>by
  simp only[fw,Bool.and_eq_true,decide_eq_true_eq]at h
  simp only[List.getElem?_cons_zero,Option.some.injEq]at h1 h2
  subst h1;subst h2
  exact h.1
 |d0::dd,n0::r,h,hl,j+1,d,n,h1,h2=>by
  simp only[fw,Bool.and_eq_true,decide_eq_true_eq]at h
  exact iS h.2 (by simpa using hl) j d n (by simpa using h1) (by simpa using h2)
theorem kW {ds:List Dm}{m:Int}(h:∀d,d∈ds->d.size<=m)(hm:0<=m)(n:List UInt8):da ds n<=m:=by
 induction ds with
 |nil=>exact hm
 |cons d r ih=>
  simp only[da]
  split
  ·exact h d (by simp)
  ·exact ih fun d hd=>h d (by simp[hd])
theorem kD {ds:List Dm}{dd:List (List UInt8)}{r:List Int}(hd:∀d,d∈ds->d.size<=256)(h:fw ds dd r=true)(hl:r.length=dd.length)(hdl:dd.length<=100000):Sml r:=by
 refine⟨by omega,fun n hn=>?_⟩
 obtain⟨j,hj⟩:=h_.1 hn
 have hlt:=(n_.1 hj).1
 obtain⟨d,hd2⟩:=aN (l:=dd) (i:=j) (by omega)
 have h1:=iS h hl j d n hd2 hj
 have h2:=kW hd (by decide) d
 exact⟨h1.1,by omega⟩
theorem gj {l:List Tbl}{i:Nat}{t:Tbl}(h:l[i]?=some t)(hn:t.nm∉(l.take i).map (·.nm))(n:List UInt8):aW (l.take (i+1)) n=if t.nm=n then t.rs else aW (l.take i) n:=by
 unfold aW
 rw[bY h,List.find?_append]
 by_cases e:t.nm=n
 ·have:(l.take i).find? (fun t=>decide (t.nm=n))=none:=by
   rw[List.find?_eq_none]
   intro y hy
   simp only[decide_eq_true_eq]
   intro e2
   exact hn (E_.2 ⟨y,hy,e2.trans e.symm⟩)
  rw[this,if_pos e]
  simp[e]
 ·rw[if_neg e]
  cases h2:(l.take i).find? (fun t=>decide (t.nm=n))with
  |none=>simp[e]
  |some y=>rfl
theorem uV {l:List Tbl}{n:List UInt8}(h:n∉l.map (·.nm)):aW l n=[]:=by
 unfold aW
 have:l.find? (fun t=>decide (t.nm=n))=none:=by
  rw[List.find?_eq_none]
  intro y hy
  simp only[decide_eq_true_eq]
  intro e2
  exact h (E_.2 ⟨y,hy,e2⟩)
 rw[this]
theorem jz {ds:List Dm}{dd:List (List UInt8)}:∀{rs:List (List Int)} {q:Option (List Int)},dC ds dd q rs=true->∀r,r∈rs->r.length=dd.length/\fw ds dd r=true
 |[],q,_,r,hr=>by cases hr
 |r0::rs,q,h,r,hr=>by
  simp only[dC,Bool.and_eq_true,decide_eq_true_eq]at h
  rcases F_.1 hr with rfl|hr
  ·exact⟨h.1.1.1,h.1.2⟩
  ·exact jz h.2 r hr
theorem iq {ds:List Dm}{dd:List (List UInt8)}:∀{rs:List (List Int)} {q:Option (List Int)},dC ds dd q rs=true->Rising rs/\∀z,q=some z->∀r,r∈rs->cA z r<0
 |[],q,_=>⟨Rising.nil,fun z _ r hr=>by cases hr⟩
 |r0::rs,q,h=>by
  simp only[dC,Bool.and_eq_true,decide_eq_true_eq]at h
  have ih:=iq h.2
  have h0:∀z,q=some z->cA z r0<0:=fun z hz=>by
   have:=h.1.1.2
   subst hz
   simpa [hdB]using this
  refine⟨?_,fun z hz r hr=>?_⟩
  ·unfold Rising
   rw[List.pairwise_cons]
   exact⟨fun r hr=>ih.2 r0 rfl r hr,ih.1⟩
  ·rcases F_.1 hr with rfl|hr
   ·exact h0 z hz
   ·exact eZ _ _ _ (h0 z hz) (ih.2 r0 rfl r hr)
attribute [local go_sem] aH aV cH
theorem MdAt.obj_ne {t:St}{p bm bz:Nat}{x:Pgm}{V:List (List (List UInt8))}{X:List Tab}(h:MdAt t p bm bz x V X){z:Nat}(hz:MdF p bm bz X z){b:Nat}(hb:t b=.free):z≠b:=aT (h.live hz) hb
def fx (rs:List (List Int)):Nat->Option (List Int)
 |0=>none
 |j+1=>rs[j]?
set_option maxHeartbeats 16000000 in
theorem EM (x:Pgm)(p bm bz:Nat)(V:List (List (List UInt8)))(X:List Tab)(l:List Tbl)(oL:Own)(hds:∀d,d∈x.doms->d.size<=256)(hdd:∀d,d∈x.decls->d.doms.length<=100000)(hdl:x.decls.length<=100000)(hll:l.length<=100000)(hrs:∀t,t∈l->t.rs.length<=100000/\∀r,r∈t.rs->r.length<=100000)
  (hdn:(x.decls.map (·.name)).Nodup) (hX0:X.map (·.l)=List.replicate x.decls.length []) (t:St) (hM:MdAt t p bm bz x V X) :
  SCalls Tryz.prog 27 [.ptr p 0,.lst (l.map aX) oL] t fun w u=>∃u':St,w=.ret (.bool (cQ x [] l))/\u=u'/\Keep t u' (MdF p bm bz X) /\
   (cQ x [] l=true->∃X',MdAt u' p bm bz x V X'/\X'.map (·.l)=x.decls.map (fun d=>aW l d.name)/\∀z,MdF p bm bz X' z->MdF p bm bz X z\/t z=.free):=by
 have hll1:(l.map aX).length=l.length:=by simp
 have hdl1:(x.decls.map az).length=x.decls.length:=by simp
 generalize hB:cQ x [] l=B
 have HM:=u_ hM
 have HB:Hid (cQ x ((l.take 0).map (·.nm)) (l.drop 0)=B):=u_ hB
 have HX0:Hid (X.map (·.l)=x.decls.map (fun d=>aW (l.take 0) d.name)):=u_ (by
  rw[hX0]
  refine List.ext_getElem? fun i=>?_
  rw[List.getElem?_replicate,c_]
  by_cases h:i<x.decls.length
  ·rw[if_pos h,b_ h];rfl
  ·rw[if_neg h,C_ (by omega)];rfl)
 clear hB hM hX0
 have l0:t p≠.free:=by rw[HM.out.o];simp
 refine aw Tryz.func27 rfl Tryz.ntmps27 rfl fun Q hQ hQe=>?_
 (repeat'(first|refine Ctl ?_|((with_reducible refine j_ hK ?_);clear hK hE K E)|((first|(with_reducible refine ae fun K E hK hE=>?_)|((with_reducible refine ao (fun b hb=>?_))))<;>(try simp(disch:=omega) only[go_sem,seval, *]))))
 obtain⟨ms,hms⟩:∃z,z=b:=⟨_,rfl⟩
 subst hms
 have HMS0:=u_ hb
 have np:¬ p=ms:=aT (by rw[HM.out.o];simp) hb
 have nm:¬ bm=ms:=aT (by rw[HM.out.h1];simp) hb
 have nz:¬ bz=ms:=aT (by rw[HM.out.h2];simp) hb
 refine bB (fun m env S=>∃(i:Nat) (X':List Tab),i<=l.length/\m+i=l.length/\Hid (MdAt S p bm bz x V X')/\Hid (X'.map (·.l)=x.decls.map (fun d=>aW (l.take i) d.name))/\Hid (Keep t S (MdF p bm bz X))/\Hid (∀z,MdF p bm bz X' z->MdF p bm bz X z\/(t z=.free/\z≠ms)) /\
  Hid (cQ x ((l.take i).map (·.nm)) (l.drop i)=B)/\S ms=.map (mpV cW (gH ((l.take i).map (·.nm))))/\env 0=.ptr p 0/\env 5=.mp ms/\env 16=.lst (l.map aX) oL/\env 17=.int .i64 l.length/\env 18=.int .i64 i) l.length ?_ ?_
 ·exact⟨0,X,by omega,by omega,u_ (HM.out.keep fun z hz=>k_ _ _ (HM.out.obj_ne hz hb)),HX0,u_ (fun z hz _=>k_ _ _ (aT hz hb)),u_ (fun z hz=>.inl hz),HB,q_ _ _ _,ab,ab,ab,ab,ab⟩
 clear HX0 HB hb
 rintro m env S ⟨i,X',hi,hm,HS,HX,HK,HF,HB,qs,e0,e5,e16,e17,e18⟩
 by_cases hlt:i<l.length
 ·obtain⟨tb,htb⟩:=aN hlt
  have hst:=dZ htb
  have hrt:=hrs tb (p_ htb)
  have hBd:=HB.out
  have hdr:l.drop i=tb::l.drop (i+1):=by
   obtain⟨h1,rfl⟩:=n_.1 htb
   exact g_ h1
  rw[hdr]at hBd
  simp only[cQ]at hBd
  have hlk:=j6 (cs:=x.decls) tb.nm
  have hsn:=tg (n:=tb.nm) (ns:=(l.take i).map (·.nm))
  have q1:=HS.out.o
  have q2:=HS.out.h1
  have q3:=HS.out.h2
  have l1:S p≠.free:=by rw[q1];simp
  have l2:S bm≠.free:=by rw[q2];simp
  have l3:S bz≠.free:=by rw[q3];simp
  have lms:S ms≠.free:=by rw[qs];simp
  have HTB:=u_ htb
  obtain⟨tn,trs⟩:=tb
  simp only at hrt hBd hlk hsn
  simp only[aX]at hst
  have HBD:=u_ hBd
  clear htb hdr HB hBd
  cases hk:cO x.decls tn with
  |none=>
   rw[hk]at hlk
   have hbf:=HBD.out
   rw[hk]at hbf
   simp only[Option.map_none]at hlk hbf
   have HBN:Hid (B=false):=u_ hbf.symm
   generalize gH ((l.take i).map (·.nm))=SL0 at *
   generalize rlA x.decls=RLA at *
   clear hk hbf
   (repeat'(first|refine Ctl ?_|(with_reducible first|(refine j_ hK ?_;clear hK hE K E)|(refine j_ hKh ?_;clear hKh Kh)|refine aq 5 [] [0,1,2,3,4,5,6,7,8,9,10,11] hQe fun K E hK hE=>?_)|((with_reducible refine aj (fun h=>?_) (fun h=>?_))<;>(try(exfalso;assumption)))|((first|(with_reducible first|refine ae fun K E hK hE=>?_|refine aD fun Kh hKh=>?_)|((with_reducible refine ao (fun b hb=>?_));(try(obtain⟨_,_⟩:=nef hb l1;obtain⟨_,_⟩:=nef hb l2;obtain⟨_,_⟩:=nef hb lms))))<;>(try simp(disch:=omega) only[go_sem,seval,Option.isSome_none,Option.getD_none, *]))))
   all_goals(refine ap jN hQ ?_)
   all_goals rw[HBN.out]
   all_goals exact⟨_,_,Wk.refl _,v_ _ hb,_,rfl,rfl,HK.out,fun h=>by cases h⟩
  |some k=>
   have hkd:=cI (show ixT tn (x.decls.map (·.name))=some k from hk)
   rw[c_]at hkd
   obtain⟨d,hd1,hd2⟩:=Option.map_eq_some_iff.1 hkd
   have hbf:=HBD.out
   rw[hk]at hbf
   simp only[hd1]at hbf
   rw[hk]at hlk
   simp only[Option.map_some]at hlk
   have hsd:=dp hd1
   have hddl:=hdd d (p_ hd1)
   have hkl:k<x.decls.length:=(n_.1 hd1).1
   obtain⟨y,hy⟩:∃y,X'[k]?=some y:=aN (by have:=congrArg List.length HX.out;simp only[a_]at this;omega)
   by_cases hse:tn∈(l.take i).map (·.nm)
   ·rw[if_pos hse]at hsn
    have HBN:Hid (B=false):=u_ (by rw[<- hbf];simp only[hse,decide_true,Bool.not_true,Bool.false_and])
    generalize gH ((l.take i).map (·.nm))=SL0 at *
    generalize rlA x.decls=RLA at *
    clear hk hkd hd1 hd2 hy hse hbf
    (repeat'(first|refine Ctl ?_|(with_reducible first|(refine j_ hK ?_;clear hK hE K E)|(refine j_ hKh ?_;clear hKh Kh)|refine aq 5 [] [0,1,2,3,4,5,6,7,8,9,10,11] hQe fun K E hK hE=>?_)|((with_reducible refine aj (fun h=>?_) (fun h=>?_))<;>(try(exfalso;assumption)))|((first|(with_reducible first|refine ae fun K E hK hE=>?_|refine aD fun Kh hKh=>?_)|((with_reducible refine ao (fun b hb=>?_));(try(obtain⟨_,_⟩:=nef hb l1;obtain⟨_,_⟩:=nef hb l2;obtain⟨_,_⟩:=nef hb lms))))<;>(try simp(disch:=omega) only[go_sem,seval,Option.isSome_some,Option.getD_some, *]))))
    all_goals(refine ap jN hQ ?_)
    all_goals rw[HBN.out]
    all_goals exact⟨_,_,Wk.refl _,v_ _ hb,_,rfl,rfl,HK.out,fun h=>by cases h⟩
   ·rw[if_neg hse]at hsn
    have hpn:=sX hse
    have HSE:=u_ hse
    have HBF:=u_ hbf
    have HD1:=u_ hd1
    have HD2:=u_ hd2
    have HY:=u_ hy
    obtain⟨dn,dd⟩:=d
    simp only at hddl
    simp only[az]at hsd
    generalize hS0:gH ((l.take i).map (·.nm))=SL0 at *
    generalize hS1:gH ((l.take i).map (·.nm)++[tn])=SL1 at *
    generalize rlA x.decls=RLA at *
    clear hk hkd hd1 hd2 hy hse hbf
    (repeat'(first|refine Ctl ?_|(with_reducible first|(refine j_ hK ?_;clear hK hE K E)|(refine j_ hKh ?_;clear hKh Kh)|refine aq 5 [] [0,1,2,3,4,5,6,7,8,9,10,11] hQe fun K E hK hE=>?_)|((with_reducible refine aj (fun h=>?_) (fun h=>?_))<;>(try(exfalso;assumption)))|((first|(with_reducible first|refine ae fun K E hK hE=>?_|refine aD fun Kh hKh=>?_)|((with_reducible refine ao (fun b hb=>?_));(repeat(obtain⟨_,hb⟩:=hb));(try(obtain⟨_,_⟩:=nef hb l1;obtain⟨_,_⟩:=nef hb l2;obtain⟨_,_⟩:=nef hb l3;obtain⟨_,_⟩:=nef hb lms))))<;>(try simp(disch:=omega) only[go_sem,seval,Option.isSome_some,Option.getD_some,Option.getD_none, *]))))
    rename_i b7 hb7 _ _ _ _ _ _ _ _ _ _ _ _ _ _ _ _ _ _ _ _
    obtain⟨b10,hb10⟩:∃z,z=b:=⟨_,rfl⟩
    subst hb10
    have w7:(((S.set b7 (.obj 46 [.str tn,.lst (aF trs) .no])).set ms (.map (mpV cW SL1))).set b10 (.obj 66 [.str dn,.lst (aA dd) .no])) b7=.obj 46 [.str tn,.lst (aF trs) .no]:=by simp only[St.set,if_true,if_false, *]
    have wms:(((S.set b7 (.obj 46 [.str tn,.lst (aF trs) .no])).set ms (.map (mpV cW SL1))).set b10 (.obj 66 [.str dn,.lst (aA dd) .no])) ms=.map (mpV cW SL1):=by simp only[St.set,if_true,if_false, *]
    have w10:(((S.set b7 (.obj 46 [.str tn,.lst (aF trs) .no])).set ms (.map (mpV cW SL1))).set b10 (.obj 66 [.str dn,.lst (aA dd) .no])) b10=.obj 66 [.str dn,.lst (aA dd) .no]:=q_ _ _ _
    have hyl:y.l=[]:=by
     have h1:(X'.map (·.l))[k]?=some y.l:=by rw[c_,HY.out];rfl
     rw[HX.out,c_,HD1.out]at h1
     injection h1 with h1
     rw[<- h1]
     exact uV (by rw[show (Dcl.mk dn dd).name=tn from HD2.out];exact HSE.out)
    have hsetX:X'.set k ⟨y.b,y.m,y.g,trs.take 0⟩=X':=by
     obtain⟨h1,h2⟩:=n_.1 HY.out
     refine List.ext_getElem? fun j=>?_
     by_cases e:k=j
     ·subst e;rw[i_ h1,HY.out,List.take_zero,<- hyl]
     ·rw[s_ e]
    have HSU:Hid (MdAt (((S.set b7 (.obj 46 [.str tn,.lst (aF trs) .no])).set ms (.map (mpV cW SL1))).set b10 (.obj 66 [.str dn,.lst (aA dd) .no])) p bm bz x V X'):=u_ (HS.out.keep fun z hz=>by
     have h1:=HS.out.live hz
     have h2:z≠ms:=by
      rcases HF.out z hz with h|h
      ·exact aT (HM.out.live h) HMS0.out
      ·exact h.2
     rw[k_ _ _ (aT h1 hb),k_ _ _ h2,k_ _ _ (aT h1 hb7)])
    have HKU:Hid (Keep t (((S.set b7 (.obj 46 [.str tn,.lst (aF trs) .no])).set ms (.map (mpV cW SL1))).set b10 (.obj 66 [.str dn,.lst (aA dd) .no])) (MdF p bm bz X)):=u_ fun z hz hn=>by
     have h0:=HK.out z hz hn
     have h1:S z≠.free:=by rw[h0];exact hz
     rw[k_ _ _ (aT h1 hb),k_ _ _ (aT hz HMS0.out),k_ _ _ (aT h1 hb7)]
     exact h0
    have HNB:Hid (∀z,MdF p bm bz X' z->z≠b7/\z≠b10):=u_ fun z hz=>⟨aT (HS.out.live hz) hb7,aT (HS.out.live hz) hb⟩
    generalize (((S.set b7 (.obj 46 [.str tn,.lst (aF trs) .no])).set ms (.map (mpV cW SL1))).set b10 (.obj 66 [.str dn,.lst (aA dd) .no]))=S2 at *
    clear q1 q2 q3 l1 l2 l3 lms hlk hsn hpn hb7 hb hyl qs HS HK hst
    generalize hFB:dC x.doms dd none trs=FB at *
    have HFB0:=u_ hFB
    have hrl0:(aF trs).length=trs.length:=rowsV_len
    clear hFB
    refine bB (fun m2 env U=>∃(j:Nat) (g':Nat),j<=trs.length/\m2+j=trs.length/\Hid (MdAt U p bm bz x V (X'.set k ⟨y.b,y.m,g',trs.take j⟩))/\Hid (Keep t U (MdF p bm bz X))/\Hid (∀z,MdF p bm bz (X'.set k ⟨y.b,y.m,g',trs.take j⟩) z->MdF p bm bz X z\/(t z=.free/\z≠ms))/\Hid (∀z,MdF p bm bz (X'.set k ⟨y.b,y.m,g',trs.take j⟩) z->z≠b7/\z≠b10) /\
     Hid (dC x.doms dd (fx trs j) (trs.drop j)=FB)/\Hid (∀z,fx trs j=some z->∀a,a∈trs.take j->a=z\/cA a z<0)/\U b7=.obj 46 [.str tn,.lst (aF trs) .no]/\U ms=.map (mpV cW SL1)/\U b10=.obj 66 [.str dn,.lst (aA dd) .no] /\
     env 0=.ptr p 0/\env 5=.mp ms/\env 7=.ptr b7 0/\env 8=.int .i64 k/\env 10=.ptr b10 0/\env 16=.lst (l.map aX) oL/\env 17=.int .i64 l.length/\env 18=.int .i64 i/\env 52=.lst (aF trs) .no/\env 53=.int .i64 trs.length/\env 54=.int .i64 j) trs.length ?_ ?_
    ·exact⟨0,y.g,by omega,by omega,u_ (by rw[hsetX];exact HSU.out),HKU,u_ (by rw[hsetX];exact HF.out),u_ (by rw[hsetX];exact HNB.out),HFB0,u_ (fun z hz=>(by cases hz)),w7,wms,w10,ab,ab,ab,ab,ab,ab,ab,ab,ab,ab,ab⟩
    clear e0 e5 e16 e17 e18 HSU HKU HNB HFB0 hsetX w7 wms w10 env S2
    rintro m2 env U ⟨j,g',hj,hm2,HSU,HKU,HFU,HNB,HFB,HPV,w7,wms,w10,e0,e5,e7,e8,e10,e16,e17,e18,e52,e53,e54⟩
    by_cases hltj:j<trs.length
    ·obtain⟨r,hr⟩:=aN hltj
     have hsr:=dK hr
     have hrl1:=hrt.2 r (p_ hr)
     have HR:=u_ hr
     have hfb:=HFB.out
     rw[tD hr]at hfb
     have hrl:(aB r).length=r.length:=bH
     have hdl2:(aA dd).length=dd.length:=by simp[aA]
     have q1:=HSU.out.o
     have q3:=HSU.out.h2
     generalize hRB:fw x.doms dd r=RB at hfb
     have HRB0:=u_ hRB
     have HRB:Hid (fw x.doms (dd.drop 0) (r.drop 0)=RB):=u_ hRB
     clear hRB hr HFB
     by_cases hlen:r.length=dd.length
     ·have hrld:=u_ hlen
      have hlenT:((r.length:Int)=(dd.length:Int))=True:=eq_true (by omega)
      rw[decide_eq_true hlen,Bool.true_and]at hfb
      cases j with
      |zero=>
       have HFB:Hid ((RB && dC x.doms dd (some r) (trs.drop (0+1)))=FB):=u_ (by rw[<- hfb];simp only[fx,hdB,Bool.true_and])
       have HNI:Hid (r∉trs.take 0):=u_ (by simp)
       have HLT:Hid (∀a,a∈trs.take 0->cA a r<0):=u_ (fun a ha=>by simp at ha)
       clear hfb hlen HPV
       (repeat'(first|refine Ctl ?_|((with_reducible refine j_ hK ?_);clear hK hE K E)|((with_reducible refine aj (fun h=>?_) (fun h=>?_))<;>(try(exfalso;first|assumption|omega)))|(((with_reducible refine ae fun K E hK hE=>?_))<;>(try simp(disch:=omega) only[go_sem,seval, *]))))
       refine bB (fun m3 env s3=>∃(q:Nat),q<=r.length/\m3+q=r.length/\U=s3/\Hid (fw x.doms (dd.drop q) (r.drop q)=RB)/\env 0=.ptr p 0/\env 5=.mp ms/\env 7=.ptr b7 0/\env 8=.int .i64 k/\env 10=.ptr b10 0/\env 16=.lst (l.map aX) oL/\env 17=.int .i64 l.length/\env 18=.int .i64 i/\env 52=.lst (aF trs) .no/\env 53=.int .i64 trs.length/\env 54=.int .i64 (0:Nat)/\env 12=.lst (aB r) .no/\env 80=.lst (aB r) .no/\env 81=.int .i64 r.length/\env 82=.int .i64 q) r.length ?_ ?_
       ·exact⟨0,by omega,by omega,rfl,HRB,ab,ab,ab,ab,ab,ab,ab,ab,ab,ab,ab,ab,ab,ab,ab⟩
       clear e0 e5 e7 e8 e10 e16 e17 e18 e52 e53 e54 env HRB
       rintro m3 env s3 ⟨q,hq,hm3,rfl,HRB,e0,e5,e7,e8,e10,e16,e17,e18,e52,e53,e54,e12,e80,e81,e82⟩
       by_cases hltq:q<r.length
       ·obtain⟨nn,hnn⟩:=aN hltq
        obtain⟨dq,hdq⟩:∃dq,dd[q]?=some dq:=aN (by have:=hrld.out;omega)
        have hsn2:=cD hnn
        have hsd2:=dm hdq
        have hrb2:=HRB.out
        rw[mK hdq hnn]at hrb2
        have hdz:=qG (ds:=x.doms) dq
        generalize da x.doms dq=dz at *
        generalize szA x.doms=SZA at *
        clear hnn hdq
        by_cases hn0:nn<0
        ·have HBN:Hid (B=false):=u_ (by rw[<- HBF.out,<- HFB.out,<- hrb2];simp only[show ¬ (0<=nn) by omega,decide_false,Bool.false_and,Bool.and_false])
         clear hrb2
         (repeat'(first|refine Ctl ?_|(with_reducible first|(refine j_ hK ?_;clear hK hE K E)|(refine j_ hKh ?_;clear hKh Kh)|refine aq 18 [] [0,1,2,3,4,5,6,7,8,9,10,11,12,13,14,15] hQe fun K E hK hE=>?_)|((with_reducible refine aj (fun h=>?_) (fun h=>?_))<;>(try(exfalso;assumption)))|(((with_reducible first|refine ae fun K E hK hE=>?_|refine aD fun Kh hKh=>?_))<;>(try simp(disch:=omega) only[go_sem,seval, *]))))
         all_goals(refine ap jN hQ ?_)
         all_goals rw[HBN.out]
         all_goals exact⟨_,_,Wk.refl _,Fg.refl _,_,rfl,rfl,HKU.out,fun h=>by cases h⟩
        ·by_cases hnz:dz<=nn
         ·have HBN:Hid (B=false):=u_ (by rw[<- HBF.out,<- HFB.out,<- hrb2];simp only[show ¬ (nn<dz) by omega,decide_false,Bool.false_and,Bool.and_false])
          clear hrb2
          (repeat'(first|refine Ctl ?_|(with_reducible first|(refine j_ hK ?_;clear hK hE K E)|(refine j_ hKh ?_;clear hKh Kh)|refine aq 18 [] [0,1,2,3,4,5,6,7,8,9,10,11,12,13,14,15] hQe fun K E hK hE=>?_)|((with_reducible refine aj (fun h=>?_) (fun h=>?_))<;>(try(exfalso;assumption)))|(((with_reducible first|refine ae fun K E hK hE=>?_|refine aD fun Kh hKh=>?_))<;>(try simp(disch:=omega) only[go_sem,seval, *]))))
          all_goals(refine ap jN hQ ?_)
          all_goals rw[HBN.out]
          all_goals exact⟨_,_,Wk.refl _,Fg.refl _,_,rfl,rfl,HKU.out,fun h=>by cases h⟩
         ·have HRB2:Hid (fw x.doms (dd.drop (q+1)) (r.drop (q+1))=RB):=u_ (by rw[<- hrb2];simp only[show 0<=nn by omega,show nn<dz by omega,decide_true,Bool.true_and])
          clear hrb2
          (repeat'(first|refine Ctl ?_|(with_reducible first|(refine j_ hK ?_;clear hK hE K E)|(refine j_ hKh ?_;clear hKh Kh)|refine aq 18 [] [0,1,2,3,4,5,6,7,8,9,10,11,12,13,14,15] hQe fun K E hK hE=>?_)|((with_reducible refine aj (fun h=>?_) (fun h=>?_))<;>(try(exfalso;assumption)))|(((with_reducible first|refine ae fun K E hK hE=>?_|refine aD fun Kh hKh=>?_))<;>(try simp(disch:=omega) only[go_sem,seval, *]))))
          all_goals exact⟨m3 - 1,by omega,q+1,by omega,by omega,rfl,HRB2,ab,ab,ab,ab,ab,ab,ab,ab,ab,ab,ab,ab,ab,ab,ab⟩
       ·obtain rfl:q=r.length:=by omega
        have hRBt:RB=true:=by rw[<- HRB.out,G_];cases List.drop r.length dd<;>rfl
        have hrow:fw x.doms dd r=true:=HRB0.out.trans hRBt
        have hsml:=kD hds hrow hrld.out hddl
        have hTA:=HSU.out.tb.at_ ⟨y.b,y.m,g',trs.take 0⟩ (p_ (i_ (n_.1 HY.out).1))
        have wa:=wd U y.b y.m g' (trs.take 0) r hTA hsml (by rw[A_];omega)
        rw[show og r (trs.take 0)=trs.take (0+1) by rw[og,if_neg HNI.out,bY HR.out]]at wa
        have wb:=SCalls.mono wa (fun w u h=>by
         obtain⟨g2,h1,h2⟩:=h
         exact(⟨u,h1,rfl,g2,h2⟩:∃u':St,w=_/\u=u'/\∃g2,TabAt u' y.b y.m g2 (trs.take (0+1))/\Keep U u' (gi y.b y.m g' (trs.take 0))/\∀z,gi y.b y.m g2 (trs.take (0+1)) z->gi y.b y.m g' (trs.take 0) z\/U z=.free))
        have wc:=yl r .no U (by have:=hsml.1;omega)
        have hXk:((X'.set k ⟨y.b,y.m,g',trs.take 0⟩).map fun y=>[VV.ptr y.b 0])[k]?=some [.ptr y.b 0]:=by rw[c_,i_ (n_.1 HY.out).1];rfl
        have HFB2:Hid (dC x.doms dd (some r) (trs.drop (0+1))=FB):=u_ (by rw[<- HFB.out,hRBt];simp only[Bool.true_and])
        unfold ca at wb wc
        generalize (X'.set k ⟨y.b,y.m,g',trs.take 0⟩).map (fun y=>[VV.ptr y.b 0])=XL2 at *
        clear hRBt hrow hsml hTA wa
        (repeat'(first|refine Ctl ?_|(with_reducible first|(refine j_ hK ?_;clear hK hE K E)|(refine j_ hKh ?_;clear hKh Kh)|(refine j_ hKb (aL ?_);clear hKb Kb)|refine aq 21 [([0,1,2,3,4,5,6,7],8,[[0,1,2,3,4,5,6]]),([],9,[[],[]])] [] hQe fun K E hK hE=>?_)|((with_reducible refine aj (fun h=>?_) (fun h=>?_))<;>(try(exfalso;assumption)))|((first|(with_reducible first|refine ae fun K E hK hE=>?_|refine ak BU (wc) ?_|refine aE fun Kh hKh=>?_|refine aD fun Kh hKh=>?_|refine aM fun Kb hKb=>?_)|((with_reducible refine aO BX (wb) (fun a h=>?_))))<;>(try simp(disch:=omega) only[go_sem,seval, *]))))
        all_goals obtain⟨g2,c1,c2,c3⟩:=h
        have hm2:=HSU.out.upd (i_ (n_.1 HY.out).1) c1 c2 c3
        rw[List.set_set]at hm2
        have hTU:∀z,gi y.b y.m g' (trs.take 0) z->MdF p bm bz (X'.set k ⟨y.b,y.m,g',trs.take 0⟩) z:=fun z hz=>.inr (.inr (.inr ⟨_,p_ (i_ (n_.1 HY.out).1),hz⟩))
        have hnew:∀z,MdF p bm bz (X'.set k ⟨y.b,y.m,g2,trs.take (0+1)⟩) z->MdF p bm bz (X'.set k ⟨y.b,y.m,g',trs.take 0⟩) z\/U z=.free:=fun z hz=>by
         rcases hz with h|h|h|h
         ·exact .inl (.inl h)
         ·exact .inl (.inr (.inl h))
         ·exact .inl (.inr (.inr (.inl h)))
         ·obtain⟨yy,hyy,hzz⟩:=h
          rcases List.mem_or_eq_of_mem_set hyy with e|e
          ·obtain⟨jj,hjj⟩:=h_.1 hyy
           by_cases ek:k=jj
           ·subst ek
            rw[i_ (n_.1 HY.out).1]at hjj
            injection hjj with hjj
            subst hjj
            rcases c3 z hzz with h1|h1
            ·exact .inl (hTU z h1)
            ·exact .inr h1
           ·rw[s_ ek]at hjj
            exact .inl (.inr (.inr (.inr ⟨yy,p_ (by rw[s_ ek];exact hjj),hzz⟩)))
          ·subst e
           rcases c3 z hzz with h1|h1
           ·exact .inl (hTU z h1)
           ·exact .inr h1
        have l7:U b7≠.free:=by rw[w7];simp
        have l10:U b10≠.free:=by rw[w10];simp
        have lms:U ms≠.free:=by rw[wms];simp
        have k7:a b7=U b7:=c2 b7 l7 fun h=>(HNB.out b7 (hTU _ h)).1 rfl
        have k10:a b10=U b10:=c2 b10 l10 fun h=>(HNB.out b10 (hTU _ h)).2 rfl
        have kms:a ms=U ms:=c2 ms lms fun h=>by
         rcases HFU.out ms (hTU _ h)with h1|h1
         ·exact HM.out.live h1 HMS0.out
         ·exact h1.2 rfl
        refine⟨m2 - 1,by omega,0+1,g2,by omega,by omega,u_ hm2,u_ (HKU.out.trans c2 fun z hz h=>(HFU.out z (hTU z h)).resolve_right fun h1=>hz h1.1),u_ fun z hz=>?_,u_ fun z hz=>?_,
         by rw[show fx trs (0+1)=some r from HR.out];exact HFB2,u_ fun z hz a ha=>?_,k7.trans w7,kms.trans wms,k10.trans w10,ab,ab,ab,ab,ab,ab,ab,ab,ab,ab,ab⟩
        ·rcases hnew z hz with h|h
         ·exact HFU.out z h
         ·by_cases h1:t z=.free
          ·exact .inr ⟨h1,fun e=>lms (e ▸ h)⟩
          ·by_cases h2:MdF p bm bz X z
           ·exact .inl h2
           ·rw[HKU.out z h1 h2]at h;exact absurd h h1
        ·rcases hnew z hz with h|h
         ·exact HNB.out z h
         ·exact⟨fun e=>l7 (e ▸ h),fun e=>l10 (e ▸ h)⟩
        ·rw[show fx trs (0+1)=some r from HR.out]at hz
         injection hz with hz
         subst hz
         rw[bY HR.out,l_,e_]at ha
         rcases ha with ha|ha
         ·exact .inr (HLT.out a ha)
         ·exact .inl ha
      |succ j'=>
       obtain⟨rp,hrp⟩:∃rp,trs[j']?=some rp:=aN (by omega)
       have hsp:=dK hrp
       have hpl:=hrt.2 rp (p_ hrp)
       have wp:=zS rp r .no .no U (by omega) (by omega)
       have hpv:fx trs (j'+1)=some rp:=hrp
       rw[hpv]at hfb
       simp only[hdB]at hfb
       by_cases hcm:cA rp r<0
       ·have HFB:Hid ((RB && dC x.doms dd (some r) (trs.drop (j'+1+1)))=FB):=u_ (by rw[<- hfb];simp only[hcm,decide_true,Bool.true_and])
        have HLT:Hid (∀a,a∈trs.take (j'+1)->cA a r<0):=u_ fun a ha=>by
         rcases HPV.out rp hpv a ha with e|e
         ·rw[e];exact hcm
         ·exact eZ _ _ _ e hcm
        have HNI:Hid (r∉trs.take (j'+1)):=u_ fun h=>by
         have:=HLT.out r h
         rw[fJ]at this
         omega
        have hcm':(0<=cA rp r)=False:=eq_false (by omega)
        generalize cA rp r=cz at *
        clear hfb hlen HPV hrp hpv
        (repeat'(first|refine Ctl ?_|((with_reducible refine j_ hK ?_);clear hK hE K E)|((with_reducible refine aj (fun h=>?_) (fun h=>?_))<;>(try(exfalso;assumption)))|((first|(with_reducible first|refine ae fun K E hK hE=>?_|refine ak BY (wp) ?_)|((with_reducible refine dy (fun h=>?_) (fun h=>?_))<;>(try(exfalso;omega))))<;>(try simp(disch:=omega) only[go_sem,seval, *]))))
        refine bB (fun m3 env s3=>∃(q:Nat),q<=r.length/\m3+q=r.length/\U=s3/\Hid (fw x.doms (dd.drop q) (r.drop q)=RB)/\env 0=.ptr p 0/\env 5=.mp ms/\env 7=.ptr b7 0/\env 8=.int .i64 k/\env 10=.ptr b10 0/\env 16=.lst (l.map aX) oL/\env 17=.int .i64 l.length/\env 18=.int .i64 i/\env 52=.lst (aF trs) .no/\env 53=.int .i64 trs.length/\env 54=.int .i64 ((j'+1):Nat)/\env 12=.lst (aB r) .no/\env 80=.lst (aB r) .no/\env 81=.int .i64 r.length/\env 82=.int .i64 q) r.length ?_ ?_
        ·exact⟨0,by omega,by omega,rfl,HRB,ab,ab,ab,ab,ab,ab,ab,ab,ab,ab,ab,ab,ab,ab,ab⟩
        clear e0 e5 e7 e8 e10 e16 e17 e18 e52 e53 e54 env HRB
        rintro m3 env s3 ⟨q,hq,hm3,rfl,HRB,e0,e5,e7,e8,e10,e16,e17,e18,e52,e53,e54,e12,e80,e81,e82⟩
        by_cases hltq:q<r.length
        ·obtain⟨nn,hnn⟩:=aN hltq
         obtain⟨dq,hdq⟩:∃dq,dd[q]?=some dq:=aN (by have:=hrld.out;omega)
         have hsn2:=cD hnn
         have hsd2:=dm hdq
         have hrb2:=HRB.out
         rw[mK hdq hnn]at hrb2
         have hdz:=qG (ds:=x.doms) dq
         generalize da x.doms dq=dz at *
         generalize szA x.doms=SZA at *
         clear hnn hdq
         by_cases hn0:nn<0
         ·have HBN:Hid (B=false):=u_ (by rw[<- HBF.out,<- HFB.out,<- hrb2];simp only[show ¬ (0<=nn) by omega,decide_false,Bool.false_and,Bool.and_false])
          clear hrb2
          (repeat'(first|refine Ctl ?_|(with_reducible first|(refine j_ hK ?_;clear hK hE K E)|(refine j_ hKh ?_;clear hKh Kh)|refine aq 18 [] [0,1,2,3,4,5,6,7,8,9,10,11,12,13,14,15] hQe fun K E hK hE=>?_)|((with_reducible refine aj (fun h=>?_) (fun h=>?_))<;>(try(exfalso;assumption)))|(((with_reducible first|refine ae fun K E hK hE=>?_|refine aD fun Kh hKh=>?_))<;>(try simp(disch:=omega) only[go_sem,seval, *]))))
          all_goals(refine ap jN hQ ?_)
          all_goals rw[HBN.out]
          all_goals exact⟨_,_,Wk.refl _,Fg.refl _,_,rfl,rfl,HKU.out,fun h=>by cases h⟩
         ·by_cases hnz:dz<=nn
          ·have HBN:Hid (B=false):=u_ (by rw[<- HBF.out,<- HFB.out,<- hrb2];simp only[show ¬ (nn<dz) by omega,decide_false,Bool.false_and,Bool.and_false])
           clear hrb2
           (repeat'(first|refine Ctl ?_|(with_reducible first|(refine j_ hK ?_;clear hK hE K E)|(refine j_ hKh ?_;clear hKh Kh)|refine aq 18 [] [0,1,2,3,4,5,6,7,8,9,10,11,12,13,14,15] hQe fun K E hK hE=>?_)|((with_reducible refine aj (fun h=>?_) (fun h=>?_))<;>(try(exfalso;assumption)))|(((with_reducible first|refine ae fun K E hK hE=>?_|refine aD fun Kh hKh=>?_))<;>(try simp(disch:=omega) only[go_sem,seval, *]))))
           all_goals(refine ap jN hQ ?_)
           all_goals rw[HBN.out]
           all_goals exact⟨_,_,Wk.refl _,Fg.refl _,_,rfl,rfl,HKU.out,fun h=>by cases h⟩
          ·have HRB2:Hid (fw x.doms (dd.drop (q+1)) (r.drop (q+1))=RB):=u_ (by rw[<- hrb2];simp only[show 0<=nn by omega,show nn<dz by omega,decide_true,Bool.true_and])
           clear hrb2
           (repeat'(first|refine Ctl ?_|(with_reducible first|(refine j_ hK ?_;clear hK hE K E)|(refine j_ hKh ?_;clear hKh Kh)|refine aq 18 [] [0,1,2,3,4,5,6,7,8,9,10,11,12,13,14,15] hQe fun K E hK hE=>?_)|((with_reducible refine aj (fun h=>?_) (fun h=>?_))<;>(try(exfalso;assumption)))|(((with_reducible first|refine ae fun K E hK hE=>?_|refine aD fun Kh hKh=>?_))<;>(try simp(disch:=omega) only[go_sem,seval, *]))))
           all_goals exact⟨m3 - 1,by omega,q+1,by omega,by omega,rfl,HRB2,ab,ab,ab,ab,ab,ab,ab,ab,ab,ab,ab,ab,ab,ab,ab⟩
        ·obtain rfl:q=r.length:=by omega
         have hRBt:RB=true:=by rw[<- HRB.out,G_];cases List.drop r.length dd<;>rfl
         have hrow:fw x.doms dd r=true:=HRB0.out.trans hRBt
         have hsml:=kD hds hrow hrld.out hddl
         have hTA:=HSU.out.tb.at_ ⟨y.b,y.m,g',trs.take (j'+1)⟩ (p_ (i_ (n_.1 HY.out).1))
         have wa:=wd U y.b y.m g' (trs.take (j'+1)) r hTA hsml (by rw[A_];omega)
         rw[show og r (trs.take (j'+1))=trs.take ((j'+1)+1) by rw[og,if_neg HNI.out,bY HR.out]]at wa
         have wb:=SCalls.mono wa (fun w u h=>by
          obtain⟨g2,h1,h2⟩:=h
          exact(⟨u,h1,rfl,g2,h2⟩:∃u':St,w=_/\u=u'/\∃g2,TabAt u' y.b y.m g2 (trs.take ((j'+1)+1))/\Keep U u' (gi y.b y.m g' (trs.take (j'+1)))/\∀z,gi y.b y.m g2 (trs.take ((j'+1)+1)) z->gi y.b y.m g' (trs.take (j'+1)) z\/U z=.free))
         have wc:=yl r .no U (by have:=hsml.1;omega)
         have hXk:((X'.set k ⟨y.b,y.m,g',trs.take (j'+1)⟩).map fun y=>[VV.ptr y.b 0])[k]?=some [.ptr y.b 0]:=by rw[c_,i_ (n_.1 HY.out).1];rfl
         have HFB2:Hid (dC x.doms dd (some r) (trs.drop ((j'+1)+1))=FB):=u_ (by rw[<- HFB.out,hRBt];simp only[Bool.true_and])
         unfold ca at wb wc
         generalize (X'.set k ⟨y.b,y.m,g',trs.take (j'+1)⟩).map (fun y=>[VV.ptr y.b 0])=XL2 at *
         clear hRBt hrow hsml hTA wa
         (repeat'(first|refine Ctl ?_|(with_reducible first|(refine j_ hK ?_;clear hK hE K E)|(refine j_ hKh ?_;clear hKh Kh)|(refine j_ hKb (aL ?_);clear hKb Kb)|refine aq 21 [([0,1,2,3,4,5,6,7],8,[[0,1,2,3,4,5,6]]),([],9,[[],[]])] [] hQe fun K E hK hE=>?_)|((with_reducible refine aj (fun h=>?_) (fun h=>?_))<;>(try(exfalso;assumption)))|((first|(with_reducible first|refine ae fun K E hK hE=>?_|refine ak BU (wc) ?_|refine aE fun Kh hKh=>?_|refine aD fun Kh hKh=>?_|refine aM fun Kb hKb=>?_)|((with_reducible refine aO BX (wb) (fun a h=>?_))))<;>(try simp(disch:=omega) only[go_sem,seval, *]))))
         all_goals obtain⟨g2,c1,c2,c3⟩:=h
         have hm2:=HSU.out.upd (i_ (n_.1 HY.out).1) c1 c2 c3
         rw[List.set_set]at hm2
         have hTU:∀z,gi y.b y.m g' (trs.take (j'+1)) z->MdF p bm bz (X'.set k ⟨y.b,y.m,g',trs.take (j'+1)⟩) z:=fun z hz=>.inr (.inr (.inr ⟨_,p_ (i_ (n_.1 HY.out).1),hz⟩))
         have hnew:∀z,MdF p bm bz (X'.set k ⟨y.b,y.m,g2,trs.take ((j'+1)+1)⟩) z->MdF p bm bz (X'.set k ⟨y.b,y.m,g',trs.take (j'+1)⟩) z\/U z=.free:=fun z hz=>by
          rcases hz with h|h|h|h
          ·exact .inl (.inl h)
          ·exact .inl (.inr (.inl h))
          ·exact .inl (.inr (.inr (.inl h)))
          ·obtain⟨yy,hyy,hzz⟩:=h
           rcases List.mem_or_eq_of_mem_set hyy with e|e
           ·obtain⟨jj,hjj⟩:=h_.1 hyy
            by_cases ek:k=jj
            ·subst ek
             rw[i_ (n_.1 HY.out).1]at hjj
             injection hjj with hjj
             subst hjj
             rcases c3 z hzz with h1|h1
             ·exact .inl (hTU z h1)
             ·exact .inr h1
            ·rw[s_ ek]at hjj
             exact .inl (.inr (.inr (.inr ⟨yy,p_ (by rw[s_ ek];exact hjj),hzz⟩)))
           ·subst e
            rcases c3 z hzz with h1|h1
            ·exact .inl (hTU z h1)
            ·exact .inr h1
         have l7:U b7≠.free:=by rw[w7];simp
         have l10:U b10≠.free:=by rw[w10];simp
         have lms:U ms≠.free:=by rw[wms];simp
         have k7:a b7=U b7:=c2 b7 l7 fun h=>(HNB.out b7 (hTU _ h)).1 rfl
         have k10:a b10=U b10:=c2 b10 l10 fun h=>(HNB.out b10 (hTU _ h)).2 rfl
         have kms:a ms=U ms:=c2 ms lms fun h=>by
          rcases HFU.out ms (hTU _ h)with h1|h1
          ·exact HM.out.live h1 HMS0.out
          ·exact h1.2 rfl
         refine⟨m2 - 1,by omega,(j'+1)+1,g2,by omega,by omega,u_ hm2,u_ (HKU.out.trans c2 fun z hz h=>(HFU.out z (hTU z h)).resolve_right fun h1=>hz h1.1),u_ fun z hz=>?_,u_ fun z hz=>?_,
          by rw[show fx trs ((j'+1)+1)=some r from HR.out];exact HFB2,u_ fun z hz a ha=>?_,k7.trans w7,kms.trans wms,k10.trans w10,ab,ab,ab,ab,ab,ab,ab,ab,ab,ab,ab⟩
         ·rcases hnew z hz with h|h
          ·exact HFU.out z h
          ·by_cases h1:t z=.free
           ·exact .inr ⟨h1,fun e=>lms (e ▸ h)⟩
           ·by_cases h2:MdF p bm bz X z
            ·exact .inl h2
            ·rw[HKU.out z h1 h2]at h;exact absurd h h1
         ·rcases hnew z hz with h|h
          ·exact HNB.out z h
          ·exact⟨fun e=>l7 (e ▸ h),fun e=>l10 (e ▸ h)⟩
         ·rw[show fx trs ((j'+1)+1)=some r from HR.out]at hz
          injection hz with hz
          subst hz
          rw[bY HR.out,l_,e_]at ha
          rcases ha with ha|ha
          ·exact .inr (HLT.out a ha)
          ·exact .inl ha
       ·have HBN:Hid (B=false):=u_ (by rw[<- HBF.out,<- hfb];simp only[hcm,decide_false,Bool.false_and,Bool.and_false])
        have hcm':(0<=cA rp r)=True:=eq_true (by omega)
        generalize cA rp r=cz at *
        clear hfb hlen HPV hrp hpv
        (repeat'(first|refine Ctl ?_|((with_reducible refine j_ hK ?_);clear hK hE K E)|((with_reducible refine aj (fun h=>?_) (fun h=>?_))<;>(try(exfalso;assumption)))|((first|(with_reducible first|refine ae fun K E hK hE=>?_|refine ak BY (wp) ?_)|((with_reducible refine dy (fun h=>?_) (fun h=>?_))<;>(try(exfalso;omega))))<;>(try simp(disch:=omega) only[go_sem,seval, *]))))
        all_goals(refine ap jN hQ ?_)
        all_goals rw[HBN.out]
        all_goals exact⟨_,_,Wk.refl _,Fg.refl _,_,rfl,rfl,HKU.out,fun h=>by cases h⟩
     ·have HBN:Hid (B=false):=u_ (by rw[<- HBF.out,<- hfb];simp only[hlen,decide_false,Bool.false_and,Bool.and_false])
      have hlenT:((r.length:Int)=(dd.length:Int))=False:=eq_false (by omega)
      clear hfb hlen
      (repeat'(first|refine Ctl ?_|((with_reducible refine j_ hK ?_);clear hK hE K E)|((with_reducible refine aj (fun h=>?_) (fun h=>?_))<;>(try(exfalso;assumption)))|(((with_reducible refine ae fun K E hK hE=>?_))<;>(try simp(disch:=omega) only[go_sem,seval, *]))))
      all_goals(refine ap jN hQ ?_)
      all_goals rw[HBN.out]
      all_goals exact⟨_,_,Wk.refl _,Fg.refl _,_,rfl,rfl,HKU.out,fun h=>by cases h⟩
    ·obtain rfl:j=trs.length:=by omega
     have hFBt:FB=true:=by have:=HFB.out;rw[G_]at this;exact this.symm
     have hbf:=HBF.out
     rw[hFBt,decide_eq_false HSE.out,Bool.not_false,Bool.true_and,Bool.true_and]at hbf
     rw[f_]at HSU HFU HNB
     have hnm:(l.take (i+1)).map (·.nm)=(l.take i).map (·.nm)++[tn]:=by rw[bY HTB.out,List.map_append];rfl
     have HB2:Hid (cQ x ((l.take (i+1)).map (·.nm)) (l.drop (i+1))=B):=u_ (by rw[hnm];exact hbf)
     have HWM:Hid (gH ((l.take (i+1)).map (·.nm))=SL1):=u_ (by rw[hnm];exact hS1)
     have HX2:Hid ((X'.set k ⟨y.b,y.m,g',trs⟩).map (·.l)=x.decls.map (fun d=>aW (l.take (i+1)) d.name)):=u_ (by
      refine List.ext_getElem? fun j=>?_
      have hxj:(X'.map (·.l))[j]?=(x.decls.map (fun d=>aW (l.take i) d.name))[j]?:=by rw[HX.out]
      rw[c_,c_]at hxj ⊢
      by_cases e:k=j
      ·subst e
       rw[i_ (n_.1 HY.out).1,HD1.out]
       simp only[Option.map_some,Option.some.injEq]
       rw[gj HTB.out HSE.out,if_pos (show (Tbl.mk tn trs).nm=(Dcl.mk dn dd).name from HD2.out.symm)]
      ·rw[s_ e,hxj]
       cases hdj:x.decls[j]? with
       |none=>rfl
       |some d2=>
        simp only[Option.map_some,Option.some.injEq]
        rw[gj HTB.out HSE.out,if_neg]
        intro e2
        have e3:(x.decls.map (·.name))[j]?=some tn:=by rw[c_,hdj];exact congrArg some e2.symm
        have e4:=mP (k:=tn) (l:=x.decls.map (·.name)) (i:=j)
        have e5:(x.decls.map (·.name))[k]?=some tn:=by rw[c_,HD1.out];exact congrArg some (show dn=tn from HD2.out)
        obtain⟨a1,a2⟩:=n_.1 e3
        obtain⟨b1,b2⟩:=n_.1 e5
        exact e ((List.getElem_inj hdn).1 (b2.trans a2.symm)))
     clear HBF HX hbf hFBt HFB HPV
     (repeat'(first|refine Ctl ?_|((with_reducible refine j_ hK ?_);clear hK hE K E)|((with_reducible refine aj (fun h=>?_) (fun h=>?_))<;>(try(exfalso;assumption)))|(((with_reducible refine ae fun K E hK hE=>?_))<;>(try simp(disch:=omega) only[go_sem,seval, *]))))
     exact⟨m - 1,by omega,i+1,_,by omega,by omega,HSU,HX2,HKU,HFU,HB2,by rw[HWM.out];exact wms,ab,ab,ab,ab,ab⟩
 ·obtain rfl:i=l.length:=by omega
  have hbe:=HB.out
  rw[G_]at hbe
  have hxe:=HX.out
  rw[f_]at hxe
  have HXE:=u_ hxe
  have hbt:B=true:=hbe.symm
  clear HX hxe HB hbe
  (repeat'(first|refine Ctl ?_|((with_reducible refine j_ hK ?_);clear hK hE K E)|((with_reducible refine aj (fun h=>?_) (fun h=>?_))<;>(try(exfalso;assumption)))|(((with_reducible refine ae fun K E hK hE=>?_))<;>(try simp(disch:=omega) only[go_sem,seval, *]))))
  all_goals(refine ap jN hQ ?_)
  rw[hbt]
  exact⟨_,_,Wk.refl _,Fg.refl _,_,rfl,rfl,HK.out,fun _=>⟨X',HS.out,HXE.out,fun z hz=>(HF.out z hz).imp id And.left⟩⟩
end Go.Proofs.YteldpmgepfaiiaaGreatDoor
