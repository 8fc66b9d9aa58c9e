/- Walks of functions, and plain facts. Conditions: those in the statements. -/
import Derived.Test.YteldpmgepfaiiaaGreatDoorQsXjj
set_option linter.unusedSimpArgs false
set_option linter.unusedVariables false
set_option maxRecDepth 100000
namespace Go.Proofs.YteldpmgepfaiiaaGreatDoor
open Go.RowKit
def cx (e:Asg):List Int:=e.map (·.getD (-1))
def A8:Option Asg->VV
 |none=>.tup [.lst [] .no,.bool false]
 |some e=>.tup [.lst (aB (cx e)) .no,.bool true]
def v8 (e:Asg):Prop:=∀x,some x∈e->0<=x
theorem iY {vars:List (List UInt8)}{e:Asg}{ts:List Trm}{vs:List Int}{i:Nat}{x:Trm}{v:Int}(h1:ts[i]?=some x)(h2:vs[i]?=some v) :
  aP vars e (ts.drop i) (vs.drop i)=(cC vars e x v).bind fun e=>aP vars e (ts.drop (i+1)) (vs.drop (i+1)):=by
 obtain⟨a1,rfl⟩:=n_.1 h1
 obtain⟨a2,rfl⟩:=n_.1 h2
 rw[g_ a1,g_ a2]
 rfl
theorem lU {P:Program}{N:Nat}{D:List Deferred}{k:List Itm}{Q:Pst}{env:Env}{s:St}(r t:Nat){os:Array Oper}{fl:Bool}
  (h:Kp P N D (.code (.region r os fl)::k) Q .norm (upd env t (.raw (.slice none 0 0))) s) (ht:env t=.lst [] .full:=by(simp(disch:=first|assumption|omega) only[go_sem,seval, *]<;>rfl)):Kp P N D (.code (.region r os fl)::k) Q .norm env s:=zR t ht h
attribute [local go_sem] aH aV cH
set_option maxHeartbeats 8000000 in
theorem JG (vars:List (List UInt8))(e:Asg)(o1:Own)(a:Atm)(v:List Int)(he:e.length=vars.length)(hv:vars.length<=1000000000)(h0:0<vars.length)(hts:a.ts.length=v.length)(hvl:v.length<=1000000000)(hp:v8 e)
  (hpv:∀x,x∈v->0<=x) (hf:ix vars vars.length a.ts) (t:St) :
  SRet Tryz.prog 75 [.lst (aA vars) o1,.lst (aB (cx e)) .no,.agg (aG a),.lst (aB v) .no] t (A8 (aP vars e a.ts v)) t:=by
 obtain⟨nt,rl,ts⟩:=a
 simp only at hts hf ⊢
 have hl1:(ts.map aC).length=ts.length:=by simp
 have hl2:(aB v).length=v.length:=bH
 have hl3:(aB (cx e)).length=vars.length:=by rw[bH,cx,a_,he]
 have hne:aB (cx e)≠[]:=fun h=>by rw[h]at hl3;simp at hl3;omega
 have h1y:∀y,y∈aB (cx e)->y.length=1:=fun y hy=>by
  obtain⟨q,_,rfl⟩:=E_.1 hy
  rfl
 have hflat:(aB (cx e)).flatten=cY (cx e):=by
  simp[aB,cY,List.flatten_eq_flatMap,List.flatMap_map]
  exact List.map_eq_flatMap.symm
 have w1:=fun n s=>qD vars n o1 hv s
 generalize hR:aP vars e ts v=R
 have HR:=u_ hR
 clear hR
 simp only[aG]
 refine aw Tryz.func75 rfl Tryz.ntmps75 rfl fun Q hQ hQe=>?_
 (repeat'(first|(with_reducible refine lU 2 10 ?_)|refine Ctl ?_|((with_reducible refine j_ hK ?_);clear hK hE K E)|((first|(with_reducible refine ae fun K E hK hE=>?_)|((with_reducible refine ao (fun b hb=>?_)))|((with_reducible refine oX (fun bM hM=>?_))))<;>(try simp(disch:=omega) only[go_sem,seval,hl1,hl3, *]))))
 obtain⟨bx,hbx⟩:∃x,x=b:=⟨_,rfl⟩
 subst hbx
 have hbg:¬ bM=bx:=by rintro rfl;rw[q_]at hM;cases hM
 have hbg':¬ bx=bM:=fun h=>hbg h.symm
 have hMf:t bM=.free:=by rw[k_ _ _ hbg]at hM;exact hM
 have HP:=u_ hp
 clear hM hflat hne h1y
 refine bB (fun m env s'=>∃(i:Nat) (e2:Asg),i<=ts.length/\m+i=ts.length/\Hid (aP vars e2 (ts.drop i) (v.drop i)=R)/\Hid (e2.length=vars.length)/\Hid (v8 e2) /\
  s'=(t.set bx (.obj 40 [.bool nt,.str rl,.lst (ts.map aC) .no])).set bM (.row 3 1 (cY (cx e2))) /\
  env 0=.lst (aA vars) o1/\env 3=.lst (aB v) .no/\env 6=.ptr bx 0/\env 10=.mrw bM vars.length/\env 11=.int .i64 i) ts.length ?_ ?_
 ·exact⟨0,e,by omega,by omega,HR,u_ he,HP,rfl,ab,ab,ab,ab,ab⟩
 clear hl3 he hp HR HP
 rintro m env s' ⟨i,e2,hi,hm,HR,HE,HP,rfl,e0,e3,e6,e10,e11⟩
 have hil:(cY (cx e2)).length=vars.length:=by have:=HE.out;simp[cY,cx,this]
 by_cases hlt:i<ts.length
 ·obtain⟨x,hx⟩:=aN hlt
  obtain⟨z,hz⟩:∃z,v[i]?=some z:=aN (by omega)
  have hsx:=dl hx
  have hsz:=cD hz
  have hst:=(iY (vars:=vars) (e:=e2) hx hz).symm.trans HR.out
  have HST:=u_ hst
  have hfx:=hf x (p_ hx)
  have hz0:=hpv z (p_ hz)
  obtain⟨xv,xn,xz⟩:=x
  simp only[aC]at hsx
  clear hx hz hst
  cases xv with
  |false=>
   by_cases e:xz=z
   ·have hT:cC vars e2 ⟨false,xn,xz⟩ z=some e2:=by simp[cC,e]
    have H2:=HST.out
    rw[hT]at H2
    have HT:=u_ (show aP vars e2 (ts.drop (i+1)) (v.drop (i+1))=R from H2)
    clear hT H2 hfx
    (repeat'(first|refine Ctl ?_|(with_reducible first|(refine j_ hK ?_;clear hK hE K E)|(refine j_ hKh ?_;clear hKh Kh)|refine aq 7 [] [0,1,2,3,4,5,6,7,8,9,10] hQe fun K E hK hE=>?_)|((with_reducible refine aj (fun h=>?_) (fun h=>?_))<;>(try(exfalso;first|assumption|omega)))|(((with_reducible first|refine ae fun K E hK hE=>?_|refine aD fun Kh hKh=>?_))<;>(try simp(disch:=omega) only[go_sem,seval,hl1,hl2,hsx,hsz,e, *]))))
    exact⟨m - 1,by omega,i+1,e2,by omega,by omega,HT,HE,HP,rfl,ab,ab,ab,ab,ab⟩
   ·have hT:cC vars e2 ⟨false,xn,xz⟩ z=none:=by simp[cC,e]
    have H2:=HST.out
    rw[hT]at H2
    have HT:=u_ (show R=none from H2.symm)
    have e':=eq_false e
    clear hT H2 hfx e
    (repeat'(first|refine Ctl ?_|(with_reducible first|(refine j_ hK ?_;clear hK hE K E)|(refine j_ hKh ?_;clear hKh Kh)|refine aq 7 [] [0,1,2,3,4,5,6,7,8,9,10] hQe fun K E hK hE=>?_)|((with_reducible refine aj (fun h=>?_) (fun h=>?_))<;>(try(exfalso;first|assumption|omega)))|(((with_reducible first|refine ae fun K E hK hE=>?_|refine aD fun Kh hKh=>?_))<;>(try simp(disch:=omega) only[go_sem,seval,hl1,hl2,hsx,hsz,e', *]))))
    all_goals(refine ap pQ hQ ?_)
    all_goals rw[HT.out]
    all_goals exact⟨_,_,z_ (.lst _ _ (.same _ .nil)),Fg.trans (v_ _ (by rw[k_ _ _ hbg];exact hMf)) (v_ _ hb),rfl,rfl⟩
  |true=>
   obtain⟨k,hk1,hk2⟩:=hfx rfl
   have hfz:gc xn vars=(k:Int):=by simp[gc,hk1]
   have w2:=w1 xn
   rw[hfz]at w2
   obtain⟨ov,hov⟩:∃ov,e2[k]?=some ov:=aN (by rw[HE.out];exact hk2)
   have hrk:(cY (cx e2))[k]?=some (.int .i64 (ov.getD (-1))):=by simp[cY,cx,hov]
   have hkl:k<(cY (cx e2)).length:=by rw[hil];exact hk2
   have hset:(cY (cx e2)).take k++[.int .i64 z]++(cY (cx e2)).drop (k+1)=cY (cx (e2.set k (some z))):=by
    have h1:cY (cx (e2.set k (some z)))=(cY (cx e2)).set k (.int .i64 z):=by simp[cY,cx,List.map_set]
    rw[h1,List.set_eq_take_append_cons_drop,if_pos hkl,List.append_assoc]
    rfl
   have hpo:=fun w (h:ov=some w)=>HP.out w (by rw[<- h];exact p_ hov)
   clear hfx hfz w1
   cases ov with
   |none=>
    have hT:cC vars e2 ⟨true,xn,xz⟩ z=some (e2.set k (some z)):=by simp[cC,hk1,hov]
    clear hk1
    have H2:=HST.out
    rw[hT]at H2
    have HT:=u_ (show aP vars (e2.set k (some z)) (ts.drop (i+1)) (v.drop (i+1))=R from H2)
    have HP2:Hid (v8 (e2.set k (some z))):=u_ fun q hq=>by
     rcases List.mem_or_eq_of_mem_set hq with h|h
     ·exact HP.out q h
     ·injection h with h;subst h;exact hz0
    have HE2:Hid ((e2.set k (some z)).length=vars.length):=u_ (by rw[List.length_set];exact HE.out)
    simp only[Option.getD_none]at hrk
    clear hT H2 hov hpo
    (repeat'(first|refine Ctl ?_|(with_reducible first|(refine j_ hK ?_;clear hK hE K E)|(refine j_ hKh ?_;clear hKh Kh)|refine aq 10 [] [0,1,2,3,4,5,6,7,8,9,10,11,12,13,14,15] hQe fun K E hK hE=>?_)|((with_reducible refine aj (fun h=>?_) (fun h=>?_))<;>(try(exfalso;first|assumption|omega)))|(((with_reducible first|refine ae fun K E hK hE=>?_|refine ak xL (w2 _) ?_|refine gh ?_|refine gT ?_|refine aD fun Kh hKh=>?_))<;>(try simp(disch:=omega) only[go_sem,seval,hl1,hl2,hsx,hsz,hrk,hil,hset,Nat.mul_one, *]))))
    exact⟨m - 1,by omega,i+1,_,by omega,by omega,HT,HE2,HP2,rfl,ab,ab,ab,ab,ab⟩
   |some w=>
    have hw0:=hpo w rfl
    simp only[Option.getD_some]at hrk
    by_cases ew:w=z
    ·have hT:cC vars e2 ⟨true,xn,xz⟩ z=some e2:=by simp[cC,hk1,hov,ew]
     have H2:=HST.out
     rw[hT]at H2
     have HT:=u_ (show aP vars e2 (ts.drop (i+1)) (v.drop (i+1))=R from H2)
     have hsame:e2.set k (some z)=e2:=by
      rw[<- ew]
      exact List.ext_getElem? fun j=>by
       by_cases hj:k=j
       ·subst hj
        rw[i_ (by rw[HE.out];exact hk2),hov]
       ·rw[s_ hj]
     rw[hsame]at hset
     subst ew
     clear hk1 hT H2 hov hpo hsame
     (repeat'(first|refine Ctl ?_|(with_reducible first|(refine j_ hK ?_;clear hK hE K E)|(refine j_ hKh ?_;clear hKh Kh)|refine aq 10 [] [0,1,2,3,4,5,6,7,8,9,10,11,12,13,14,15] hQe fun K E hK hE=>?_)|((with_reducible refine aj (fun h=>?_) (fun h=>?_))<;>(try(exfalso;first|assumption|omega)))|(((with_reducible first|refine ae fun K E hK hE=>?_|refine ak xL (w2 _) ?_|refine gh ?_|refine gT ?_|refine aD fun Kh hKh=>?_))<;>(try simp(disch:=omega) only[go_sem,seval,hl1,hl2,hsx,hsz,hrk,hil,hset,Nat.mul_one, *]))))
     exact⟨m - 1,by omega,i+1,e2,by omega,by omega,HT,HE,HP,rfl,ab,ab,ab,ab,ab⟩
    ·have hT:cC vars e2 ⟨true,xn,xz⟩ z=none:=by simp[cC,hk1,hov,ew]
     have H2:=HST.out
     rw[hT]at H2
     have HT:=u_ (show R=none from H2.symm)
     have ew':=eq_false ew
     clear hk1 hT H2 hov hpo hset ew
     (repeat'(first|refine Ctl ?_|(with_reducible first|(refine j_ hK ?_;clear hK hE K E)|(refine j_ hKh ?_;clear hKh Kh)|refine aq 10 [] [0,1,2,3,4,5,6,7,8,9,10,11,12,13,14,15] hQe fun K E hK hE=>?_)|((with_reducible refine aj (fun h=>?_) (fun h=>?_))<;>(try(exfalso;first|assumption|omega)))|(((with_reducible first|refine ae fun K E hK hE=>?_|refine ak xL (w2 _) ?_|refine gh ?_|refine aD fun Kh hKh=>?_))<;>(try simp(disch:=omega) only[go_sem,seval,hl1,hl2,hsx,hsz,hrk,hil,ew',Nat.mul_one, *]))))
     all_goals(refine ap pQ hQ ?_)
     all_goals rw[HT.out]
     all_goals exact⟨_,_,z_ (.lst _ _ (.same _ .nil)),Fg.trans (v_ _ (by rw[k_ _ _ hbg];exact hMf)) (v_ _ hb),rfl,rfl⟩
 ·obtain rfl:i=ts.length:=by omega
  have hd:=HR.out
  rw[G_]at hd
  have hRe:R=some e2:=by rw[<- hd];cases List.drop ts.length v<;>rfl
  have HRE:=u_ hRe
  clear hd hRe w1
  refine EN 10 bM vars.length (q_ _ _ _) e10 hil ?_
  rw[St.set_set,show (t.set bx (.obj 40 [.bool nt,.str rl,.lst (ts.map aC) .no])).set bM .free=t.set bx (.obj 40 [.bool nt,.str rl,.lst (ts.map aC) .no]) from x_ _ _ _ (by rw[k_ _ _ hbg];exact hMf),kP]
  (repeat'(first|refine Ctl ?_|((with_reducible refine j_ hK ?_);clear hK hE K E)|((with_reducible refine aj (fun h=>?_) (fun h=>?_))<;>(try(exfalso;omega)))|(((with_reducible refine ae fun K E hK hE=>?_))<;>(try simp(disch:=omega) only[go_sem,seval,hl1,hl2, *]))))
  all_goals(refine ap pQ hQ ?_)
  all_goals rw[HRE.out]
  all_goals exact⟨_,_,Wk.refl _,v_ _ hb,rfl,rfl⟩
set_option maxHeartbeats 8000000 in
theorem EC (o1:Own)(a:Atm)(v:List Int)(hts:a.ts.length=v.length)(hvl:v.length<=1000000000)(hf:ix [] 0 a.ts)(t:St) :
  SRet Tryz.prog 75 [.lst (aA []) o1,.lst (aB (cx [])) .no,.agg (aG a),.lst (aB v) .no] t (A8 (aP [] [] a.ts v)) t:=by
 obtain⟨nt,rl,ts⟩:=a
 simp only at hts hf ⊢
 have hl1:(ts.map aC).length=ts.length:=by simp
 have hl2:(aB v).length=v.length:=bH
 have hl3:aB (cx [])=[]:=rfl
 have hy:∀y,y∈([]:List (List VV))->y.length=1:=fun y hy=>by cases hy
 generalize hR:aP [] [] ts v=R
 have HR:=u_ hR
 clear hR
 simp only[aG,hl3]
 refine aw Tryz.func75 rfl Tryz.ntmps75 rfl fun Q hQ hQe=>?_
 (repeat'(first|refine Ctl ?_|((with_reducible refine j_ hK ?_);clear hK hE K E)|((first|(with_reducible refine ae fun K E hK hE=>?_)|((with_reducible refine ao (fun b hb=>?_)))|((with_reducible refine cq (fun o2 ho=>?_));(try(simp only[aH]at ho))))<;>(try simp(disch:=omega) only[go_sem,seval,hl1,hl3, *]))))
 obtain⟨bx,hbx⟩:∃x,x=b:=⟨_,rfl⟩
 subst hbx
 refine ee (Fg.own ho) ?_
 clear ho hy hl3
 refine bB (fun m env s'=>∃(i:Nat),i<=ts.length/\m+i=ts.length/\Hid (aP [] [] (ts.drop i) (v.drop i)=R) /\
  s'=t.set bx (.obj 40 [.bool nt,.str rl,.lst (ts.map aC) .no])/\env 3=.lst (aB v) .no/\env 6=.ptr bx 0/\env 10=.lst [] o2/\env 11=.int .i64 i) ts.length ?_ ?_
 ·exact⟨0,by omega,by omega,HR,rfl,ab,ab,ab,ab⟩
 clear HR
 rintro m env s' ⟨i,hi,hm,HR,rfl,e3,e6,e10,e11⟩
 by_cases hlt:i<ts.length
 ·obtain⟨x,hx⟩:=aN hlt
  obtain⟨z,hz⟩:∃z,v[i]?=some z:=aN (by omega)
  have hsx:=dl hx
  have hsz:=cD hz
  have HST:=u_ ((iY (vars:=[]) (e:=[]) hx hz).symm.trans HR.out)
  have hfx:=hf x (p_ hx)
  obtain⟨xv,xn,xz⟩:=x
  simp only[aC]at hsx
  clear hx hz HR
  cases xv with
  |true=>obtain⟨k,hk1,_⟩:=hfx rfl;cases hk1
  |false=>
   by_cases e:xz=z
   ·have H2:=HST.out
    rw[show cC [] [] ⟨false,xn,xz⟩ z=some [] by simp[cC,e]]at H2
    have HT:Hid (aP [] [] (ts.drop (i+1)) (v.drop (i+1))=R):=u_ H2
    clear H2 hfx HST
    (repeat'(first|refine Ctl ?_|(with_reducible first|(refine j_ hK ?_;clear hK hE K E)|(refine j_ hKh ?_;clear hKh Kh)|refine aq 7 [] [0,1,2,3,4,5,6,7,8,9,10] hQe fun K E hK hE=>?_)|((with_reducible refine aj (fun h=>?_) (fun h=>?_))<;>(try(exfalso;first|assumption|omega)))|(((with_reducible first|refine ae fun K E hK hE=>?_|refine aD fun Kh hKh=>?_))<;>(try simp(disch:=omega) only[go_sem,seval,hl1,hl2,hsx,hsz,e, *]))))
    exact⟨m - 1,by omega,i+1,by omega,by omega,HT,rfl,ab,ab,ab,ab⟩
   ·have H2:=HST.out
    rw[show cC [] [] ⟨false,xn,xz⟩ z=none by simp[cC,e]]at H2
    have HT:Hid (R=none):=u_ H2.symm
    have e':=eq_false e
    clear H2 hfx e HST
    (repeat'(first|refine Ctl ?_|(with_reducible first|(refine j_ hK ?_;clear hK hE K E)|(refine j_ hKh ?_;clear hKh Kh)|refine aq 7 [] [0,1,2,3,4,5,6,7,8,9,10] hQe fun K E hK hE=>?_)|((with_reducible refine aj (fun h=>?_) (fun h=>?_))<;>(try(exfalso;first|assumption|omega)))|(((with_reducible first|refine ae fun K E hK hE=>?_|refine aD fun Kh hKh=>?_))<;>(try simp(disch:=omega) only[go_sem,seval,hl1,hl2,hsx,hsz,e', *]))))
    all_goals(refine ap pQ hQ ?_)
    all_goals rw[HT.out]
    all_goals exact⟨_,_,z_ (.lst _ _ (.same _ .nil)),v_ _ hb,rfl,rfl⟩
 ·obtain rfl:i=ts.length:=by omega
  have hd:=HR.out
  rw[G_]at hd
  have HRE:Hid (R=some []):=u_ (by rw[<- hd];cases List.drop ts.length v<;>rfl)
  clear hd
  (repeat'(first|refine Ctl ?_|((with_reducible refine j_ hK ?_);clear hK hE K E)|((with_reducible refine aj (fun h=>?_) (fun h=>?_))<;>(try(exfalso;omega)))|(((with_reducible refine ae fun K E hK hE=>?_))<;>(try simp(disch:=omega) only[go_sem,seval,hl1,hl2, *]))))
  all_goals(refine ap pQ hQ ?_)
  all_goals rw[HRE.out]
  all_goals exact⟨_,_,z_ (.lst _ _ (.same _ .nil)),v_ _ hb,rfl,rfl⟩
theorem EB (vars:List (List UInt8))(e:Asg)(o1:Own)(a:Atm)(v:List Int)(he:e.length=vars.length)(hv:vars.length<=1000000000)(hts:a.ts.length=v.length)(hvl:v.length<=1000000000)(hp:v8 e)
  (hpv:∀x,x∈v->0<=x) (hf:ix vars vars.length a.ts) (t:St) :
  SRet Tryz.prog 75 [.lst (aA vars) o1,.lst (aB (cx e)) .no,.agg (aG a),.lst (aB v) .no] t (A8 (aP vars e a.ts v)) t:=by
 by_cases h0:0<vars.length
 ·exact JG vars e o1 a v he hv h0 hts hvl hp hpv hf t
 ·have hvn:vars=[]:=t_ (by omega)
  subst hvn
  have hen:e=[]:=t_ (by simpa using he)
  subst hen
  exact EC o1 a v hts hvl hf t
end Go.Proofs.YteldpmgepfaiiaaGreatDoor
namespace Go.Proofs.YteldpmgepfaiiaaGreatDoor
open Go.RowKit
def bV (x:Pgm)(X:List Tab):Tbs:=fun n=>match cO x.decls n with
 |some k=>((X[k]?).map (·.l)).getD []
 |none=>[]
structure MAtm (x:Pgm) (X:List Tab) (vars:List (List UInt8)) (a:Atm):Prop where
 ex:∃k y,cO x.decls a.rel=some k/\X[k]?=some y/\∀r,r∈y.l->r.length=a.ts.length
 fits:ix vars vars.length a.ts
 len:a.ts.length<=100000
 num:∀m,m∈a.ts->m.var=false->0<=m.n/\m.n<256
structure AsgAt (n:Nat) (e:Asg) (rv:List Int) (kn:List Bool):Prop where
 el:e.length=n
 rl:rv.length=n
 kn:kn=e.map (·.isSome)
 rv:∀(i:Nat) (v:Int),e[i]?=some (some v)->rv[i]?=some v
theorem AsgAt.kl {n:Nat}{e:Asg}{rv:List Int}{kn:List Bool}(h:AsgAt n e rv kn):kn.length=n:=by rw[h.kn,a_,h.el]
theorem AsgAt.full {n:Nat}{e:Asg}{rv:List Int}{kn:List Bool}(h:AsgAt n e rv kn)(hf:∀o,o∈e->o≠none):rv=fi e:=by
 refine List.ext_getElem? fun i=>?_
 unfold fi
 rw[c_]
 by_cases hi:i<n
 ·have hi':i<e.length:=by rw[h.el];exact hi
  have h1:=b_ hi'
  cases h2:e[i]with
  |none=>exact absurd h2 (hf _ (List.getElem_mem hi'))
  |some v=>rw[h2]at h1;rw[h1,h.rv i v h1];rfl
 ·rw[C_ (by rw[h.rl];omega),C_ (by rw[h.el];omega)]
  rfl
theorem AsgAt.k0 {n s:Nat}{e:Asg}{rv:List Int}{kn:List Bool}(h:AsgAt n e rv kn)(hs:e[s]?=some none):kn[s]?=some false:=by rw[h.kn,c_,hs];rfl
theorem AsgAt.k1 {n s:Nat}{v:Int}{e:Asg}{rv:List Int}{kn:List Bool}(h:AsgAt n e rv kn)(hs:e[s]?=some (some v)):kn[s]?=some true:=by rw[h.kn,c_,hs];rfl
theorem AsgAt.pick {n s:Nat}{e:Asg}{rv:List Int}{kn:List Bool}{v:Int}(h:AsgAt n e rv kn)(hs:s<n):AsgAt n (e.set s (some v)) (rv.set s v) (kn.set s true):=by
 refine⟨by rw[List.length_set];exact h.el,by rw[List.length_set];exact h.rl,by rw[h.kn,List.map_set];rfl,fun i w hi=>?_⟩
 by_cases e1:s=i
 ·subst e1
  rw[i_ (by rw[h.el];exact hs)]at hi
  injection hi with hi;injection hi with hi
  rw[i_ (by rw[h.rl];exact hs),hi]
 ·rw[s_ e1]at hi ⊢
  exact h.rv i w hi
def FrOk (e e2:Asg)(fr:List Nat):Prop:=e2.length=e.length/\∀i,(i∈fr->e[i]?=some none)/\(i∉fr->e2[i]?=e[i]?)
theorem FrOk.nil (e:Asg):FrOk e e []:=⟨rfl,fun i=>⟨(fun h=>by cases h),fun _=>rfl⟩⟩
theorem FrOk.pick {e e2:Asg}{fr:List Nat}{s:Nat}{v:Int}(h:FrOk e e2 fr)(hs:e2[s]?=some none):FrOk e (e2.set s (some v)) (fr++[s]):=by
 refine⟨by rw[List.length_set];exact h.1,fun i=>⟨fun hi=>?_,fun hi=>?_⟩⟩
 ·by_cases hm:i∈fr
  ·exact(h.2 i).1 hm
  ·rw[l_,e_]at hi
   obtain rfl:=hi.resolve_left hm
   rw[<- (h.2 i).2 hm]
   exact hs
 ·rw[l_,e_]at hi
  rw[s_ (fun e=>hi (.inr e.symm))]
  exact(h.2 i).2 fun e=>hi (.inl e)
theorem FrOk.lt {e e2:Asg}{fr:List Nat}{s:Nat}(h:FrOk e e2 fr)(hs:s∈fr):s<e.length:=(n_.1 ((h.2 s).1 hs)).1
def clr:List Nat->List Bool->List Bool
 |[],k=>k
 |s::l,k=>clr l (k.set s false)
theorem iu:∀{l:List Nat} {k:List Bool},(clr l k).length=k.length
 |[],k=>rfl
 |s::l,k=>by rw[clr,iu,List.length_set]
theorem xK:∀{l m:List Nat} {k:List Bool},clr (l++m) k=clr m (clr l k)
 |[],m,k=>rfl
 |s::l,m,k=>by simp only[List.cons_append,clr];exact xK
theorem oD {l:List Nat}{j s:Nat}{k:List Bool}(h:l[j]?=some s):clr (l.take (j+1)) k=(clr (l.take j) k).set s false:=by
 rw[bY h,xK]
 rfl
theorem BP:∀{l:List Nat} {k:List Bool} {i:Nat},(clr l k)[i]?=if i∈l then(k[i]?).map (fun _=>false)else k[i]?
 |[],k,i=>by simp[clr]
 |s::l,k,i=>by
  rw[clr,BP]
  by_cases h1:i∈l
  ·rw[if_pos h1,if_pos (by simp[h1])]
   by_cases h2:s=i
   ·subst h2
    by_cases h3:s<k.length
    ·rw[i_ h3,b_ h3];rfl
    ·rw[C_ (by rw[List.length_set];omega),C_ (by omega)]
   ·rw[s_ h2]
  ·rw[if_neg h1]
   by_cases h2:s=i
   ·subst h2
    rw[if_pos (by simp)]
    by_cases h3:s<k.length
    ·rw[i_ h3,b_ h3];rfl
    ·rw[C_ (by rw[List.length_set];omega),C_ (by omega)];rfl
   ·rw[if_neg (by simp[h1,Ne.symm h2]),s_ h2]
theorem AsgAt.back {n:Nat}{e e2:Asg}{rv:List Int}{kn:List Bool}{fr:List Nat}(h:AsgAt n e2 rv kn)(hf:FrOk e e2 fr):AsgAt n e rv (clr fr kn):=by
 refine⟨hf.1.symm.trans h.el,h.rl,List.ext_getElem? fun i=>?_,fun i v hi=>?_⟩
 ·rw[BP,h.kn,c_,c_]
  by_cases hm:i∈fr
  ·rw[if_pos hm,(hf.2 i).1 hm]
   have h1:i<e2.length:=by rw[hf.1];exact hf.lt hm
   rw[b_ h1]
   rfl
  ·rw[if_neg hm,(hf.2 i).2 hm]
 ·have hm:i∉fr:=fun hm=>by rw[(hf.2 i).1 hm]at hi;cases hi
  exact h.rv i v ((hf.2 i).2 hm ▸ hi)
theorem AsgAt.kn_eq {n:Nat}{e:Asg}{rv rv':List Int}{kn kn':List Bool}(h:AsgAt n e rv kn)(h':AsgAt n e rv' kn'):kn=kn':=h.kn.trans h'.kn.symm
def eU (T:Tbs)(vars:List (List UInt8))(ns l:List Atm)(e:Asg):List (List Int):=((dI T vars l e).map fi).filter (dB T vars ns)
def kB (T:Tbs)(vars:List (List UInt8))(ns:List Atm)(ts:List Trm)(l:List Atm)(e:Asg)(r:List Int):List (List Int):=match aP vars e ts r with
 |some e'=>eU T vars ns l e'
 |none=>[]
theorem uW {T:Tbs}{vars:List (List UInt8)}{ns l:List Atm}{a:Atm}{e:Asg}:eU T vars ns (a::l) e=(T a.rel).flatMap (kB T vars ns a.ts l e):=by
 unfold eU
 simp only[dI]
 rw[List.map_flatMap,List.filter_flatMap]
 congr 1
 funext r
 unfold kB
 cases aP vars e a.ts r<;>rfl
theorem yO {T:Tbs}{vars:List (List UInt8)}{ns:List Atm}{e:Asg}:eU T vars ns [] e=if dB T vars ns (fi e)=true then [fi e] else []:=by
 simp[eU,dI,List.filter_cons]
def RGood (T:Tbs)(vars:List (List UInt8))(good:List Int->Prop)(l:List Atm)(e:Asg):Prop:=∀e',e'∈dI T vars l e->(∀o,o∈e'->o≠none)/\good (fi e')
theorem RGood.step {T:Tbs}{vars:List (List UInt8)}{good:List Int->Prop}{l:List Atm}{a:Atm}{e e2:Asg}{r:List Int}(h:RGood T vars good (a::l) e)(hr:r∈T a.rel)(hm:aP vars e a.ts r=some e2):RGood T vars good l e2:=fun e' he=>by
 refine h e' ?_
 simp only[dI,List.mem_flatMap]
 exact⟨r,hr,by rw[hm];exact he⟩
theorem RGood.rows {T:Tbs}{vars:List (List UInt8)}{good:List Int->Prop}{ns l:List Atm}{e:Asg}(h:RGood T vars good l e){r:List Int}(hr:r∈eU T vars ns l e):good r:=by
 unfold eU at hr
 obtain⟨h1,_⟩:=List.mem_filter.1 hr
 obtain⟨e',he,rfl⟩:=E_.1 h1
 exact(h e' he).2
theorem wH {A:Type}{f:A->List Int->A×Bool}{ok:A->Prop}{good:List Int->Prop}(hd:∀a r,ok a->good r->(f a r).2=true->ok (f a r).1):∀{l:List (List Int)} {a:A},ok a->(∀r,r∈l->good r)->(c6 f a l).2=true->ok (c6 f a l).1
 |[],a,ho,_,_=>ho
 |r::l,a,ho,hl,h=>by
  simp only[c6]at h ⊢
  by_cases h1:(f a r).2=true
  ·rw[if_pos h1]at h ⊢
   exact wH hd (hd a r ho (hl r (by simp)) h1) (fun r hr=>hl r (by simp[hr])) h
  ·rw[if_neg h1]at h
   cases h
theorem An {A:Type}{f:A->List Int->A×Bool}{a:A}{r:List Int}:c6 f a [r]=f a r:=by
 simp only[c6]
 split
 ·rename_i h;rw[<- h]
 ·rename_i h
  rw[Bool.not_eq_true]at h
  rw[<- h]
theorem vq {T:Tbs}{vars:List (List UInt8)}{ns:List Atm}{i:Nat}{a:Atm}{row:List Int}(h:ns[i]?=some a):dB T vars (ns.drop i) row=(decide (aU vars row a.ts∉T a.rel) && dB T vars (ns.drop (i+1)) row):=by
 obtain⟨h1,rfl⟩:=n_.1 h
 rw[g_ h1]
 rfl
theorem jn {x:Pgm}{X:List Tab}{n:List UInt8}{k:Nat}{y:Tab}(h1:cO x.decls n=some k)(h2:X[k]?=some y):bV x X n=y.l:=by simp[bV,h1,h2]
section
variable {A : Type} {t u : St} {B : WB} {p bm bz : Nat} {x : Pgm} {V : List (List (List UInt8))} {X : List Tab} {ys ns : List Atm} {vars : List (List UInt8)} {tf : FuncId} {tc : List VV} {Rz : Nat -> Prop} {P : A -> St -> (Nat -> Prop) -> Prop}
 {f:A->List Int->A×Bool} {ok:A->Prop} {good:List Int->Prop} {a a':A} {F F':Nat->Prop} {rv rv':List Int} {kn kn':List Bool}
def Cv (t u:St)(B:WB)(p bm bz:Nat)(x:Pgm)(V:List (List (List UInt8)))(X:List Tab)(ys ns:List Atm)(vars:List (List UInt8))(tf:FuncId)(tc:List VV)(Rz:Nat->Prop)(P:A->St->(Nat->Prop)->Prop)
  (a:A) (F:Nat->Prop) (e:Asg) (kn:List Bool):Prop:=
 ∃rv' F',WkS u B p bm bz x V X ys ns vars tf tc Rz P a F' rv' kn/\AsgAt vars.length e rv' kn/\(∀z,F' z->F z\/t z=.free)/\Keep t u fun z=>F z\/z=B.rb\/z=B.kb
end
attribute [local go_sem] aH aV cH
theorem Aq {r:List Int}(h:Sml r):r.length*8<=140737488355328:=by have:=h.1;omega
theorem fH {vars:List (List UInt8)}{rv:List Int}{ts:List Trm}(hr:Sml rv)(hf:ix vars rv.length ts)(hl:ts.length<=100000)(hn:∀m,m∈ts->m.var=false->0<=m.n/\m.n<256):Sml (aU vars rv ts):=by
 refine⟨by simpa [aU]using hl,fun n hn'=>?_⟩
 obtain⟨m,hm,rfl⟩:=E_.1 hn'
 unfold eF
 cases hv:m.var with
 |false=>simpa using hn m hm hv
 |true=>
  obtain⟨k,hk1,hk2⟩:=hf m hm hv
  obtain⟨z,hz⟩:=aN hk2
  rw[if_pos rfl,hk1]
  simp only[Option.getD_some,hz]
  exact hr.2 z (p_ hz)
section
variable {A : Type} {x : Pgm} {V : List (List (List UInt8))} {X : List Tab} {ys ns : List Atm} {vars : List (List UInt8)} {tf : FuncId} {tc : List VV} {Rz : Nat -> Prop} {P : A -> St -> (Nat -> Prop) -> Prop}
 {f:A->List Int->A×Bool} {ok:A->Prop} {good:List Int->Prop}
set_option maxHeartbeats 8000000 in
theorem Cu (hT:TellOk tf tc Rz P f ok good)(hsm:∀r,good r->Sml r)(hns:∀m,m∈ns->MAtm x X vars m)(hnl:ns.length<=100000)(hyl:ys.length<=100000)(hvl:vars.length<=100000)
  (t:St) (B:WB) (p bm bz:Nat) (a:A) (F:Nat->Prop) (e:Asg) (rv:List Int) (kn:List Bool)
  (hW:WkS t B p bm bz x V X ys ns vars tf tc Rz P a F rv kn) (he:AsgAt vars.length e rv kn) (ho:ok a) (hg:RGood (bV x X) vars good [] e) :
  SCalls Tryz.prog 80 [.int .i64 (ys.length:Int),.ptr B.yes 0,.ptr B.no 0,.ptr B.val 0,.ptr B.x 0,.ptr B.tell 0,.ptr B.row 0,.ptr B.known 0,.ptr B.slot 0,.ptr B.walk 0] t fun w u=>
   ∃u':St,w=.ret (.bool (c6 f a (eU (bV x X) vars ns [] e)).2)/\u=u'/\Cv t u' B p bm bz x V X ys ns vars tf tc Rz P (c6 f a (eU (bV x X) vars ns [] e)).1 F e kn:=by
 obtain⟨hfull,hgood⟩:=hg e (by simp[dI])
 have hre:=he.full hfull
 rw[<- hre]at hgood
 have hrs:=hsm rv hgood
 have hR:c6 f a (eU (bV x X) vars ns [] e)=if dB (bV x X) vars ns rv=true then f a rv else(a,true):=by
  rw[yO,<- hre]
  split
  ·exact An
  ·rfl
 have hrl:rv.length=vars.length:=he.rl
 have hkl:kn.length=vars.length:=he.kl
 have HE:=u_ he
 rw[hR]
 generalize hN:dB (bV x X) vars ns rv=N
 have HN:=u_ hN
 have HNS:=u_ hns
 have HT:=u_ hT
 have HW:=u_ hW
 have HRS:=u_ hrs
 have cw:=C0 rv B.rb 3 t hW.w.rb (Aq hrs)
 rw[hrl]at cw
 have tw:=fun s hs=>hT.run a s F rv hs ho hgood
 have canG:=hT.can
 have hyn:(ys.map fun a=>aG a).length=ys.length:=by simp
 have hnn:(ns.map fun a=>aG a).length=ns.length:=by simp
 have w1:=fun(x:Trm) (hf:x.var=true->∃k,ixT x.nm vars=some k/\k<rv.length) (s:St)=>vW vars B.row B.slot B.rb B.sb rv x s
 have hrvb:rv.length<=1000000000:=by omega
 have q1:=hW.w.yes
 have q2:=hW.w.no
 have q3:=hW.w.val
 have q4:=hW.w.x
 have q5:=hW.w.tell
 have q6:=hW.w.row
 have q8:=hW.w.slot
 have q10:=hW.w.rb
 have q12:=hW.w.sb
 have q13:=hW.m.o
 have q14:=hW.m.h1
 have l1:t B.yes≠.free:=by rw[q1];simp
 have l2:t B.no≠.free:=by rw[q2];simp
 have l3:t B.val≠.free:=by rw[q3];simp
 have l4:t B.x≠.free:=by rw[q4];simp
 have l5:t B.tell≠.free:=by rw[q5];simp
 have l6:t B.row≠.free:=by rw[q6];simp
 have l8:t B.slot≠.free:=by rw[q8];simp
 have l10:t B.rb≠.free:=by rw[q10];simp
 have l12:t B.sb≠.free:=by rw[q12];simp
 have l13:t p≠.free:=by rw[q13];simp
 have l14:t bm≠.free:=by rw[q14];simp
 clear hfull hgood hre hR hN hns hT hW hrs he
 refine aw Tryz.func80 rfl Tryz.ntmps80 rfl fun Q hQ hQe=>?_
 (repeat'(first|refine Ctl ?_|((with_reducible refine j_ hK ?_);clear hK hE K E)|((with_reducible refine aj (fun h=>?_) (fun h=>?_))<;>(try(exfalso;assumption)))|(((with_reducible refine ae fun K E hK hE=>?_))<;>(try simp(disch:=omega) only[go_sem,seval,hyn,hnn, *]))))
 refine aI (fun m env s'=>∃i:Nat,i<=ns.length/\m+i=ns.length/\t=s'/\Hid (dB (bV x X) vars (ns.drop i) rv=N)/\env 3=.ptr B.val 0/\env 4=.ptr B.x 0/\env 5=.ptr B.tell 0/\env 6=.ptr B.row 0 /\
  env 32=.lst (ns.map fun a=>aG a) .no/\env 33=.int .i64 ns.length/\env 34=.int .i64 i) ns.length ?_ ?_
 ·exact⟨_,Fg.refl _,0,by omega,by omega,rfl,HN,ab,ab,ab,ab,ab,ab,ab⟩
 rintro m env s' ⟨i,hi,hm,rfl,HNi,e3,e4,e5,e6,e32,e33,e34⟩
 by_cases hlt:i<ns.length
 ·obtain⟨an,han⟩:=aN hlt
  have hsx:=cX han
  have hA:=HNS.out an (p_ han)
  have hNd:=HNi.out
  rw[vq han]at hNd
  have HND:=u_ hNd
  clear hNd HNi han
  obtain⟨nt,rl,ts⟩:=an
  obtain⟨⟨k,y,hk,hy,hyl⟩,hfit,hlen,hnum⟩:=hA
  simp only at hk hyl hfit hlen hnum HND
  have hl1:(ts.map aC).length=ts.length:=by simp
  simp only[aG]at hsx
  have HK:=u_ hk
  have HY:=u_ hy
  clear hk hy
  (repeat'(first|refine Ctl ?_|((with_reducible refine j_ hK ?_);clear hK hE K E)|((with_reducible refine aj (fun h=>?_) (fun h=>?_))<;>(try(exfalso;assumption)))|((first|(with_reducible refine ae fun K E hK hE=>?_)|((with_reducible refine ao (fun b hb=>?_));(try(obtain⟨_,_⟩:=nef hb l3;obtain⟨_,_⟩:=nef hb l4;obtain⟨_,_⟩:=nef hb l6;obtain⟨_,_⟩:=nef hb l8;obtain⟨_,_⟩:=nef hb l10;obtain⟨_,_⟩:=nef hb l12))))<;>(try simp(disch:=omega) only[go_sem,seval,hnn,hsx, *]))))
  obtain⟨bx,hbx⟩:∃x,x=b:=⟨_,rfl⟩
  subst hbx
  refine aI (fun m2 env s2=>∃(j:Nat) (o:Own),j<=ts.length/\m2+j=ts.length/\OwnOk t o j/\ay o bx/\s2=(t.own o 3 1 j).set bx (.obj 40 [.bool nt,.str rl,.lst (ts.map aC) .no]) /\
   env 3=.ptr B.val 0/\env 4=.ptr B.x 0/\env 5=.ptr B.tell 0/\env 6=.ptr B.row 0/\env 13=.ptr bx 0/\env 14=.lst (aB (aU vars rv (ts.take j))) o /\
   env 32=.lst (ns.map fun a=>aG a) .no/\env 33=.int .i64 ns.length/\env 34=.int .i64 i/\env 39=.lst (ts.map aC) .no/\env 40=.int .i64 ts.length/\env 41=.int .i64 j) ts.length ?_ ?_
  ·exact⟨_,Fg.refl _,0,.full,by omega,by omega,b9,trivial,rfl,ab,ab,ab,ab,ab,ab,ab,ab,ab,ab,ab,ab⟩
  clear e3 e4 e5 e6 e32 e33 e34 env
  rintro m2 env s2 ⟨j,o,hj,hm2,hoo,hno,rfl,e3,e4,e5,e6,e13,e14,e32,e33,e34,e39,e40,e41⟩
  have hLl:(aB (aU vars rv (ts.take j))).length=j:=by rw[bH,aU,a_,A_];omega
  have h1y:∀y,y∈aB (aU vars rv (ts.take j))->y.length=1:=fun y hy=>by
   obtain⟨q,_,rfl⟩:=E_.1 hy
   rfl
  have o3:=hoo.not l3
  have o4:=hoo.not l4
  have o6:=hoo.not l6
  have o8:=hoo.not l8
  have o10:=hoo.not l10
  have o12:=hoo.not l12
  by_cases hltj:j<ts.length
  ·obtain⟨z,hz⟩:=aN hltj
   have hsz:=dl hz
   have hS:=kg (vars:=vars) (row:=rv) hz
   have HS:=u_ hS
   have hfz:z.var=true->∃k,ixT z.nm vars=some k/\k<rv.length:=fun h=>by rw[hrl];exact hfit z (p_ hz) h
   have w2:=fun s h1 h2 h3 h4=>vW vars B.row B.slot B.rb B.sb rv z s h1 h2 h3 h4 hfz hrvb
   clear hS hz hfz
   obtain⟨xv,xn,xz⟩:=z
   simp only[aC]at hsz w2
   generalize eF vars rv ⟨xv,xn,xz⟩=val at *
   generalize aB (aU vars rv (ts.take j))=L at *
   (repeat'(first|refine Ctl ?_|((with_reducible refine j_ hK ?_);clear hK hE K E)|((with_reducible refine aj (fun h=>?_) (fun h=>?_))<;>(try(exfalso;assumption)))|((first|(with_reducible first|refine ae fun K E hK hE=>?_|refine ak tS (w2 _ ab ab ab ab) ?_)|((with_reducible refine ao (fun b hb=>?_));(repeat(obtain⟨_,hb⟩:=hb));(try(rw[aR]at hb;obtain⟨_,hb⟩:=hb;obtain⟨_,_⟩:=nef hb l3;obtain⟨_,_⟩:=nef hb l4;obtain⟨_,_⟩:=nef hb l6;obtain⟨_,_⟩:=nef hb l8;obtain⟨_,_⟩:=nef hb l10;obtain⟨_,_⟩:=nef hb l12)))|((with_reducible refine cq (fun o2 ho=>?_));(try simp(disch:=assumption) only[aQ,aS,bc,cB,a_,List.length_cons,List.length_nil,Nat.zero_add,hnn,hl1,hsz,hLl]at ho);(repeat(obtain⟨_,ho⟩:=ho))))<;>(try simp(disch:=first|assumption|omega) only[go_sem,seval,hnn,hl1,hsz,hLl, *]))))
   all_goals exact⟨_,v_ _ (by rw[k_ _ _ (‹_›),aR];exact⟨‹_›,‹_›⟩),m2 - 1,by omega,j+1,o2,by omega,by omega,ho,‹_›,rfl,ab,ab,ab,ab,ab,by rw[HS.out];((try simp(disch:=assumption) only[go_sem,seval, *])<;>rfl),ab,ab,ab,ab,ab,ab⟩
  ·obtain rfl:j=ts.length:=by omega
   rw[f_]at e14
   have hF:Fg ((t.own o 3 1 ts.length).set bx (.obj 40 [.bool nt,.str rl,.lst (ts.map aC) .no])) (t.set bx (.obj 40 [.bool nt,.str rl,.lst (ts.map aC) .no])):=Fg.set (Fg.own hoo) _ _
   refine lT 14 (y:=.lst (aB (aU vars rv ts)) .no) e14 (Wk.lst _ _) ?_
   refine ee hF ?_
   have hlk:=(j6 (cs:=x.decls) rl).trans (by rw[HK.out];rfl:_=some (k:Int))
   have hXk:(X.map fun y=>[VV.ptr y.b 0])[k]?=some [.ptr y.b 0]:=by rw[c_,HY.out];rfl
   have qt:=HW.out.m.tb.at_ y (p_ HY.out)
   have q15:=qt.o
   have q16:=qt.h
   have hsml:=fH HRS.out (by rw[hrl];exact hfit) hlen hnum
   have hht:=gO hsml qt.s
   have wt:=fun s=>mW (aU vars rv ts) (by rw[aU,a_];omega) s
   have l15:t y.b≠.free:=by rw[q15];simp
   have l16:t y.m≠.free:=by rw[q16];simp
   obtain⟨_,_⟩:=nef hb l13
   obtain⟨_,_⟩:=nef hb l14
   obtain⟨_,_⟩:=nef hb l15
   obtain⟨_,_⟩:=nef hb l16
   have HND2:=HND.out
   rw[jn HK.out HY.out]at HND2
   clear hF hoo hno o3 o4 o6 o8 o10 o12 hLl h1y hsml qt HND w1
   unfold ca at wt
   generalize X.map (fun y=>[VV.ptr y.b 0])=XL at *
   by_cases hmem:aU vars rv ts∈y.l
   ·rw[if_pos hmem]at hht
    have hNf:N=false:=by rw[<- HND2];simp[hmem]
    clear HND2 hmem
    (repeat'(first|refine Ctl ?_|(with_reducible first|(refine j_ hK ?_;clear hK hE K E)|(refine j_ hKh ?_;clear hKh Kh)|(refine j_ hKb (aL ?_);clear hKb Kb)|refine aq 11 [([0,1,2,3,4,5,6,7,8,9,10,11,12,13,14,15,16],17,[[0,1,2,3,4,5,6,7,8,9,10,11,12,13,14,15]])] [18] hQe fun K E hK hE=>?_)|((with_reducible refine aj (fun h=>?_) (fun h=>?_))<;>(try(exfalso;assumption)))|(((with_reducible first|refine ae fun K E hK hE=>?_|refine ak k9 (wt _) ?_|refine aE fun Kh hKh=>?_|refine aD fun Kh hKh=>?_|refine aM fun Kb hKb=>?_))<;>(try simp(disch:=omega) only[go_sem,seval,hnn,hl1,hlk,hXk,hht,Option.getD_some, *]))))
    subst hNf
    all_goals(refine ap sQ hQ ?_)
    all_goals exact⟨_,t,Wk.refl _,v_ _ hb,t,rfl,rfl,rv,F,HW.out,HE.out,fun z h=>.inl h,Keep.refl _ _⟩
   ·rw[if_neg hmem]at hht
    have hNt:Hid (dB (bV x X) vars (ns.drop (i+1)) rv=N):=u_ (by rw[<- HND2];simp[hmem])
    clear HND2 hmem
    (repeat'(first|refine Ctl ?_|(with_reducible first|(refine j_ hK ?_;clear hK hE K E)|(refine j_ hKh ?_;clear hKh Kh)|(refine j_ hKb (aL ?_);clear hKb Kb)|refine aq 11 [([0,1,2,3,4,5,6,7,8,9,10,11,12,13,14,15,16],17,[[0,1,2,3,4,5,6,7,8,9,10,11,12,13,14,15]])] [18] hQe fun K E hK hE=>?_)|((with_reducible refine aj (fun h=>?_) (fun h=>?_))<;>(try(exfalso;assumption)))|(((with_reducible first|refine ae fun K E hK hE=>?_|refine ak k9 (wt _) ?_|refine aE fun Kh hKh=>?_|refine aD fun Kh hKh=>?_|refine aM fun Kb hKb=>?_))<;>(try simp(disch:=omega) only[go_sem,seval,hnn,hl1,hlk,hXk,hht,Option.getD_none,Option.getD_some, *]))))
    all_goals exact⟨t,v_ _ hb,m - 1,by omega,i+1,by omega,by omega,rfl,hNt,ab,ab,ab,ab,ab,ab,ab⟩
 ·obtain rfl:i=ns.length:=by omega
  have hNd:=HNi.out
  rw[G_]at hNd
  have hNt:N=true:=by rw[<- hNd];rfl
  subst hNt
  clear HNi hNd
  have tw2:=tw t HW.out.c
  (repeat'(first|refine Ctl ?_|(with_reducible first|(refine j_ hK ?_;clear hK hE K E)|(refine j_ hKh ?_;clear hKh Kh)|(refine j_ hKb (aL ?_);clear hKb Kb)|refine aq 14 [([0,1],2,[[0]]),([],3,[[],[]])] [4] hQe fun K E hK hE=>?_)|((with_reducible refine aj (fun h=>?_) (fun h=>?_))<;>(try(exfalso;assumption)))|((first|(with_reducible first|refine ae fun K E hK hE=>?_|refine ak BU (cw) ?_|refine aE fun Kh hKh=>?_|refine aD fun Kh hKh=>?_|refine aM fun Kb hKb=>?_)|((with_reducible refine aO canG (tw2) (fun a h=>?_))))<;>(try simp(disch:=omega) only[go_sem,seval,hnn, *]))))
  obtain⟨F2,c1,c2,c3⟩:=h
  all_goals(refine ap sQ hQ ?_)
  all_goals exact⟨_,_,Wk.refl _,Fg.refl _,_,rfl,rfl,rv,F2,HW.out.told c1 c2 c3,HE.out,c2,fun x hx hn=>c3 x hx fun h=>hn (.inl h)⟩
end
end Go.Proofs.YteldpmgepfaiiaaGreatDoor
namespace Go.Proofs.YteldpmgepfaiiaaGreatDoor
open Go.RowKit
def Ext (e:Asg)(row:List Int):Prop:=∀(i:Nat) (v:Int),e[i]?=some (some v)->row[i]?=some v
def sgm (vars:List (List UInt8))(row:List Int):Sig:=fun n=>(row[(ixT n vars).getD 0]?).getD 0
theorem zk {vars:List (List UInt8)}{row:List Int}{ts:List Trm}:aU vars row ts=ei (sgm vars row) ts:=rfl
section
variable {vars : List (List UInt8)} {row : List Int} {T : Tbs}
theorem zg {e:Asg}{t:Trm}{v:Int}(hl:row.length=vars.length)(he:e.length=vars.length)(hf:t.var=true->∃k,ixT t.nm vars=some k/\k<vars.length) :
  (∀e',cC vars e t v=some e'->(Ext e' row↔Ext e row/\eF vars row t=v))/\(cC vars e t v=none->Ext e row->eF vars row t≠v):=by
 unfold cC eF
 cases hv:t.var with
 |false=>
  simp only[Bool.false_eq_true,if_false,if_true]
  by_cases h:t.n=v
  ·rw[if_pos h]
   exact⟨fun e' he'=>by injection he' with he';subst he';simp[h],fun h'=>by cases h'⟩
  ·rw[if_neg h]
   exact⟨fun e' he'=>(by cases he'),fun _ _=>h⟩
 |true=>
  obtain⟨k,hk1,hk2⟩:=hf hv
  simp only[hk1,Bool.true_eq_false,if_false,if_true,Option.getD_some]
  have hk3:k<row.length:=by omega
  have hk4:k<e.length:=by omega
  obtain⟨z,hz⟩:=aN hk3
  obtain⟨o,ho⟩:=aN hk4
  rw[hz,ho]
  simp only[Option.getD_some]
  cases o with
  |none=>
   refine⟨fun e' he'=>?_,fun h=>by cases h⟩
   injection he' with he'
   subst he'
   constructor
   ·intro h
    refine⟨fun i w hi=>?_,?_⟩
    ·have hne:k≠i:=by rintro rfl;rw[ho]at hi;cases hi
     exact h i w (by rw[s_ hne];exact hi)
    ·have:=h k v (by rw[i_ hk4])
     rw[hz]at this
     injection this
   ·rintro⟨h,rfl⟩ i w hi
    by_cases hne:k=i
    ·subst hne
     rw[i_ hk4]at hi
     injection hi with hi
     injection hi with hi
     rw[<- hi]
     exact hz
    ·rw[s_ hne]at hi
     exact h i w hi
  |some w=>
   by_cases hw:w=v
   ·simp only[if_pos hw]
    refine⟨fun e' he'=>?_,fun h=>by cases h⟩
    injection he' with he'
    subst he'
    refine⟨fun h=>⟨h,?_⟩,fun h=>h.1⟩
    have:=h k w ho
    rw[hz]at this
    injection this with this
    rw[this,hw]
   ·simp only[if_neg hw]
    refine⟨fun e' he'=>(by cases he'),fun _ h e=>?_⟩
    have:=h k w ho
    rw[hz]at this
    injection this with this
    exact hw (this ▸ e)
theorem j9 (hl:row.length=vars.length):∀{ts:List Trm} {vs:List Int} {e:Asg},ts.length=vs.length->e.length=vars.length->ix vars vars.length ts ->
  (∀e',aP vars e ts vs=some e'->(Ext e' row↔Ext e row/\aU vars row ts=vs))/\(aP vars e ts vs=none->Ext e row->aU vars row ts≠vs)
 |[],[],e,_,_,_=>⟨fun e' h=>by simp only[aP]at h;injection h with h;subst h;simp[aU],fun h=>by simp[aP]at h⟩
 |t::ts,v::vs,e,hlen,he,hf=>by
  have h1:=zg (e:=e) (t:=t) (v:=v) hl he (fun hv=>hf t (by simp) hv)
  simp only[aP]
  have hi:∀vs',aU vars row (t::ts)=v::vs'↔eF vars row t=v/\aU vars row ts=vs':=fun vs'=>by simp[aU]
  cases h2:cC vars e t v with
  |none=>
   refine⟨fun e' h=>(by cases h),fun _ hx e2=>h1.2 h2 hx ?_⟩
   exact((hi vs).1 e2).1
  |some e1=>
   have h3:=j9 hl (ts:=ts) (vs:=vs) (e:=e1) (by simpa using hlen) ((p9 h2).trans he) (fun m hm=>hf m (by simp[hm]))
   have h4:=h1.1 e1 h2
   simp only[Option.bind_some]
   refine⟨fun e' h=>?_,fun h hx e2=>?_⟩
   ·rw[h3.1 e' h,h4,hi]
    exact⟨fun⟨⟨a,b⟩,c⟩=>⟨a,b,c⟩,fun⟨a,b,c⟩=>⟨⟨a,b⟩,c⟩⟩
   ·obtain⟨e3,e4⟩:=(hi vs).1 e2
    exact h3.2 h (h4.2 ⟨hx,e3⟩) e4
theorem jq (hl:row.length=vars.length):∀{l:List Atm} {e:Asg},e.length=vars.length->(∀a,a∈l->ix vars vars.length a.ts)->(∀a,a∈l->∀r,r∈T a.rel->r.length=a.ts.length) ->
  ((∃e',e'∈dI T vars l e/\Ext e' row)↔Ext e row/\∀a,a∈l->aU vars row a.ts∈T a.rel)
 |[],e,_,_,_=>by simp[dI]
 |a::l,e,he,hf,hT=>by
  simp only[dI,List.mem_flatMap]
  constructor
  ·rintro⟨e',⟨r,hr,h⟩,hx⟩
   have h1:=j9 hl (ts:=a.ts) (vs:=r) (e:=e) (hT a (by simp) r hr).symm he (hf a (by simp))
   cases h2:aP vars e a.ts r with
   |none=>rw[h2]at h;cases h
   |some e1=>
    rw[h2]at h
    have h3:=(jq hl (l:=l) (e:=e1) ((fV h2).trans he) (fun b hb=>hf b (by simp[hb])) (fun b hb=>hT b (by simp[hb]))).1 ⟨e',h,hx⟩
    obtain⟨h4,h5⟩:=(h1.1 e1 h2).1 h3.1
    refine⟨h4,fun b hb=>?_⟩
    rcases F_.1 hb with rfl|hb
    ·rw[h5];exact hr
    ·exact h3.2 b hb
  ·rintro⟨hx,hall⟩
   have hr:=hall a (by simp)
   have h1:=j9 hl (ts:=a.ts) (vs:=aU vars row a.ts) (e:=e) (hT a (by simp) _ hr).symm he (hf a (by simp))
   cases h2:aP vars e a.ts (aU vars row a.ts)with
   |none=>exact absurd rfl (h1.2 h2 hx)
   |some e1=>
    obtain⟨e',h3,h4⟩:=(jq hl (l:=l) (e:=e1) ((fV h2).trans he) (fun b hb=>hf b (by simp[hb])) (fun b hb=>hT b (by simp[hb]))).2 ⟨(h1.1 e1 h2).2 ⟨hx,rfl⟩,fun b hb=>hall b (by simp[hb])⟩
    exact⟨e',⟨_,hr,by rw[h2];exact h3⟩,h4⟩
def Kn (e:Asg)(i:Nat):Prop:=∃v,e[i]?=some (some v)
theorem ta {e e':Asg}{t:Trm}{v:Int}(h:cC vars e t v=some e'){i:Nat}(hi:Kn e i\/(t.var=true/\ixT t.nm vars=some i)):Kn e' i:=by
 unfold cC at h
 split at h
 ·rename_i hv
  split at h
  ·injection h with h;subst h
   rcases hi with hi|⟨hi,_⟩
   ·exact hi
   ·rw[hv]at hi;cases hi
  ·cases h
 ·split at h
  ·cases h
  ·rename_i s hs
   split at h
   ·cases h
   ·rename_i hes
    injection h with h
    subst h
    have hlt:=(n_.1 hes).1
    by_cases e1:s=i
    ·subst e1
     exact⟨v,by rw[i_ hlt]⟩
    ·rcases hi with ⟨w,hi⟩|⟨_,hi⟩
     ·exact⟨w,by rw[s_ e1];exact hi⟩
     ·rw[hs]at hi;injection hi with hi;exact absurd hi e1
   ·rename_i w hes
    split at h
    ·injection h with h
     subst h
     rcases hi with hi|⟨_,hi⟩
     ·exact hi
     ·rw[hs]at hi;injection hi with hi;subst hi;exact⟨w,hes⟩
    ·cases h
theorem lG:∀{ts:List Trm} {vs:List Int} {e e':Asg},ts.length=vs.length->aP vars e ts vs=some e'->∀{i:Nat},(Kn e i\/∃m,m∈ts/\m.var=true/\ixT m.nm vars=some i)->Kn e' i
 |[],[],e,e',_,h,i,hi=>by
  simp only[aP]at h
  injection h with h
  subst h
  rcases hi with hi|⟨m,hm,_⟩
  ·exact hi
  ·cases hm
 |t::ts,v::vs,e,e',hl,h,i,hi=>by
  simp only[aP]at h
  cases h1:cC vars e t v with
  |none=>rw[h1]at h;cases h
  |some e1=>
   rw[h1]at h
   refine lG (by simpa using hl) h ?_
   rcases hi with hi|⟨m,hm,hv,hx⟩
   ·exact .inl (ta h1 (.inl hi))
   ·rcases F_.1 hm with rfl|hm
    ·exact .inl (ta h1 (.inr ⟨hv,hx⟩))
    ·exact .inr ⟨m,hm,hv,hx⟩
theorem su:∀{l:List Atm} {e e':Asg},(∀a,a∈l->∀r,r∈T a.rel->r.length=a.ts.length)->e'∈dI T vars l e->∀{i:Nat},(Kn e i\/∃a,a∈l/\∃m,m∈a.ts/\m.var=true/\ixT m.nm vars=some i)->Kn e' i
 |[],e,e',_,h,i,hi=>by
  simp only[dI,e_]at h
  subst h
  rcases hi with hi|⟨a,ha,_⟩
  ·exact hi
  ·cases ha
 |a::l,e,e',hT,h,i,hi=>by
  simp only[dI,List.mem_flatMap]at h
  obtain⟨r,hr,h⟩:=h
  cases h1:aP vars e a.ts r with
  |none=>rw[h1]at h;cases h
  |some e1=>
   rw[h1]at h
   refine su (fun b hb=>hT b (by simp[hb])) h ?_
   have hl:=(hT a (by simp) r hr).symm
   rcases hi with hi|⟨b,hb,m,hm,hv,hx⟩
   ·exact .inl (lG hl h1 (.inl hi))
   ·rcases F_.1 hb with rfl|hb
    ·exact .inl (lG hl h1 (.inr ⟨m,hm,hv,hx⟩))
    ·exact .inr ⟨b,hb,m,hm,hv,hx⟩
def Cov (vars:List (List UInt8))(l:List Atm):Prop:=∀i,i<vars.length->∃a,a∈l/\∃m,m∈a.ts/\m.var=true/\ixT m.nm vars=some i
theorem zq:Ext (cU vars) row:=fun i v h=>by
 unfold cU at h
 rw[List.getElem?_replicate]at h
 split at h<;>cases h
theorem g8 {l:List Atm}{e':Asg}(hT:∀a,a∈l->∀r,r∈T a.rel->r.length=a.ts.length)(hc:Cov vars l)(h:e'∈dI T vars l (cU vars)):∀o,o∈e'->o≠none:=fun o ho e=>by
 subst e
 obtain⟨i,hi⟩:=h_.1 ho
 have hlt:=(n_.1 hi).1
 rw[fE h,cU,List.length_replicate]at hlt
 obtain⟨v,hv⟩:=su hT h (.inr (hc i hlt))
 rw[hv]at hi
 cases hi
theorem tF {e:Asg}(hf:∀o,o∈e->o≠none)(hl:row.length=e.length):Ext e row↔row=fi e:=by
 constructor
 ·intro h
  refine List.ext_getElem? fun i=>?_
  unfold fi
  rw[c_]
  by_cases hi:i<e.length
  ·cases h2:e[i]with
   |none=>exact absurd h2 (hf _ (List.getElem_mem hi))
   |some v=>
    have h1:=b_ hi
    rw[h2]at h1
    rw[h1,h i v h1]
    rfl
  ·rw[C_ (by omega),C_ (by omega)]
   rfl
 ·rintro rfl i v hi
  unfold fi
  rw[c_,hi]
  rfl
theorem pL {body:List Atm}(hf:∀a,a∈body->ix vars vars.length a.ts)(hT:∀a,a∈body->a.not=false->∀r,r∈T a.rel->r.length=a.ts.length)(hc:Cov vars (cE body)) :
  row∈eT T vars body↔row.length=vars.length/\Sat (fun n r=>r∈T n) (sgm vars row) body:=by
 have hpos:∀{a:Atm},a∈cE body↔a∈body/\a.not=false:=fun {a}=>by simp[cE]
 have hneg:∀{a:Atm},a∈cK body↔a∈body/\a.not=true:=fun {a}=>by simp[cK]
 have hf':∀a,a∈cE body->ix vars vars.length a.ts:=fun a ha=>hf a (hpos.1 ha).1
 have hT':∀a,a∈cE body->∀r,r∈T a.rel->r.length=a.ts.length:=fun a ha=>hT a (hpos.1 ha).1 (hpos.1 ha).2
 have hn0:(cU vars).length=vars.length:=by simp[cU]
 have key:row∈(dI T vars (cE body) (cU vars)).map fi↔row.length=vars.length/\∀a,a∈cE body->aU vars row a.ts∈T a.rel:=by
  rw[E_]
  constructor
  ·rintro⟨e,he,rfl⟩
   have hel:e.length=vars.length:=(fE he).trans hn0
   have hrl:(fi e).length=vars.length:=by simp[fi,hel]
   exact⟨hrl,((jq hrl hn0 hf' hT').1 ⟨e,he,(tF (g8 hT' hc he) (by simp[fi])).2 rfl⟩).2⟩
  ·rintro⟨hl,h⟩
   obtain⟨e,he,hx⟩:=(jq hl hn0 hf' hT').2 ⟨zq,h⟩
   have hel:e.length=vars.length:=(fE he).trans hn0
   exact⟨e,he,((tF (g8 hT' hc he) (by omega)).1 hx).symm⟩
 unfold eT
 rw[List.mem_filter,key,dB,List.all_eq_true]
 constructor
 ·rintro⟨⟨h1,h2⟩,h3⟩
  refine⟨h1,fun a ha=>?_⟩
  unfold uo
  by_cases hn:a.not=true
  ·rw[if_pos hn]
   have:=h3 a (hneg.2 ⟨ha,hn⟩)
   rw[decide_eq_true_eq]at this
   exact this
  ·rw[if_neg hn]
   exact h2 a (hpos.2 ⟨ha,by simpa using hn⟩)
 ·rintro⟨h1,h2⟩
  refine⟨⟨h1,fun a ha=>?_⟩,fun a ha=>?_⟩
  ·have:=h2 a (hpos.1 ha).1
   unfold uo at this
   rw[if_neg (by simp[(hpos.1 ha).2])]at this
   exact this
  ·have:=h2 a (hneg.1 ha).1
   unfold uo at this
   rw[if_pos (hneg.1 ha).2]at this
   rw[decide_eq_true_eq]
   exact this
theorem vD {g g':Sig}{ts:List Trm}(h:∀m,m∈ts->m.var=true->g m.nm=g' m.nm):ei g ts=ei g' ts:=by
 unfold ei
 refine List.map_congr_left fun m hm=>?_
 by_cases hv:m.var=true
 ·rw[if_pos hv,if_pos hv,h m hm hv]
 ·rw[if_neg hv,if_neg hv]
theorem C5 {g:Sig}{n:List UInt8}{k:Nat}(h:ixT n vars=some k):sgm vars (vars.map g) n=g n:=by
 unfold sgm
 rw[h,Option.getD_some,c_,cI h]
 rfl
theorem qj {body:List Atm}{ts:List Trm}(hf:∀a,a∈body->ix vars vars.length a.ts)(hT:∀a,a∈body->a.not=false->∀r,r∈T a.rel->r.length=a.ts.length)(hc:Cov vars (cE body))(hh:ix vars vars.length ts){h:List Int} :
  (∃row,row∈eT T vars body/\aU vars row ts=h)↔∃g,Sat (fun n r=>r∈T n) g body/\ei g ts=h:=by
 constructor
 ·rintro⟨row,hr,rfl⟩
  exact⟨_,((pL hf hT hc).1 hr).2,rfl⟩
 ·rintro⟨g,hg,rfl⟩
  have hcg:∀ts,ix vars vars.length ts->ei (sgm vars (vars.map g)) ts=ei g ts:=fun ts hts=>vD fun m hm hv=>by
   obtain⟨k,hk,_⟩:=hts m hm hv
   exact C5 hk
  refine⟨vars.map g,(pL hf hT hc).2 ⟨by simp,fun a ha=>?_⟩,?_⟩
  ·have:=hg a ha
   unfold uo at this ⊢
   rw[hcg _ (hf a ha)]
   exact this
  ·rw[zk,hcg _ hh]
end
section
variable {H : Type} {enc : TypeId × Value -> H} {w : World}
theorem CellsR.appU {G:Gh}{a b:List Value}{xs ys:List VV}(h:CellsR G a xs)(k:CellsR G b ys):CellsR G (a++b) (xs++ys):=by
 obtain⟨h1,h2,h3⟩:=h
 obtain⟨k1,k2,k3⟩:=k
 refine⟨by simp[h1,k1],fun y hy=>?_,fun j v y hv hy=>?_⟩
 ·rcases l_.1 hy with hy|hy
  ·exact h2 y hy
  ·exact k2 y hy
 ·rcases Nat.lt_or_ge j a.length with hj|hj
  ·rw[o_ hj]at hv
   rw[o_ (by omega)]at hy
   exact h3 j v y hv hy
  ·rw[r_ hj]at hv
   rw[r_ (by omega),<- h1]at hy
   exact k3 _ v y hv hy
theorem A2 {fuel:Nat}{cs:List Value}{x:DataW H×List MemPlace}(h:DataW.trod enc Tryz.prog w 0 (fun _=>true) true fuel 64 cs=some x)(hw:Wt Tryz.prog 64 x.1) :
  ∃l:List (List UInt8),CellsR (GhW w) cs [.lst (aA l) .no]/\l.length<=140737488355328/\∀t,t∈l->t.length<=140737488355328:=by
 obtain⟨xss,h1,h2,h3⟩:=eM (Q:=fun xs=>∃t:List UInt8,xs=[.str t]/\t.length<=140737488355328) (sz:=1) Tryz.underlying64 (by kernel_rfl) (by omega) (by decide +kernel) h hw (fun n cs' y _ hy hwy=>by
  obtain⟨t,ht1,ht2⟩:=lC (GhW w) Tryz.underlying9 hy hwy
  exact⟨[.str t],ht1,rfl,t,rfl,cV ht2⟩)
 obtain⟨l,rfl,hl⟩:=fd (C:=fun t:List UInt8=>[VV.str t]) xss h2
 have e:aA l=l.map fun t=>[VV.str t]:=rfl
 refine⟨l,?_,by rw[a_]at h3;exact cV h3,hl⟩
 rw[e]
 exact h1
theorem G8 {fuel:Nat}{cs:List Value}{x:DataW H×List MemPlace}(h:DataW.trod enc Tryz.prog w 0 (fun _=>true) true fuel 53 cs=some x)(hw:Wt Tryz.prog 53 x.1) :
  ∃t:Trm,CellsR (GhW w) cs (aC t)/\t.nm.length<=140737488355328/\-9223372036854775808<=t.n/\t.n<=9223372036854775807:=by
 obtain⟨n,hn,hl,hf⟩:=fG Tryz.underlying53 (by kernel_rfl) (dN (by decide +kernel)) h hw
 obtain⟨v0,y0,e0,t0,w0⟩:=hf 0 _ rfl
 obtain⟨v1,y1,e1,t1,w1⟩:=hf 1 _ rfl
 obtain⟨v2,y2,e2,t2,w2⟩:=hf 2 _ rfl
 obtain⟨b,r0⟩:=wQ (GhW w) Tryz.underlying4 t0
 obtain⟨d,r1,l1⟩:=lC (GhW w) Tryz.underlying9 t1 w1
 obtain⟨k,r2,l2⟩:=vd (GhW w) Tryz.underlying3 t2
 refine⟨⟨b,d,k⟩,CellsR.of (by rw[hl];rfl) fun j y hy=>?_,cV l1,l2⟩
 simp only[aC]at hy
 match j with
 |0=>simp at hy;subst hy;exact⟨v0,e0,r0.get1⟩
 |1=>simp at hy;subst hy;exact⟨v1,e1,r1.get1⟩
 |2=>simp at hy;subst hy;exact⟨v2,e2,r2.get1⟩
 |j+3=>simp at hy
theorem A6 {fuel:Nat}{cs:List Value}{x:DataW H×List MemPlace}(h:DataW.trod enc Tryz.prog w 0 (fun _=>true) true fuel 40 cs=some x)(hw:Wt Tryz.prog 40 x.1) :
  ∃a:Atm,CellsR (GhW w) cs (aG a)/\pf a:=by
 obtain⟨n,hn,hl,hf⟩:=fG Tryz.underlying40 (by kernel_rfl) (dN (by decide +kernel)) h hw
 obtain⟨v0,y0,e0,t0,w0⟩:=hf 0 _ rfl
 obtain⟨v1,y1,e1,t1,w1⟩:=hf 1 _ rfl
 obtain⟨v2,y2,e2,t2,w2⟩:=hf 2 _ rfl
 obtain⟨b,r0⟩:=wQ (GhW w) Tryz.underlying4 t0
 obtain⟨d,r1,l1⟩:=lC (GhW w) Tryz.underlying9 t1 w1
 obtain⟨xss,h1,h2,h3⟩:=eM (Q:=fun xs=>∃t:Trm,xs=aC t/\t.nm.length<=140737488355328/\-9223372036854775808<=t.n/\t.n<=9223372036854775807) (sz:=3) Tryz.underlying38 (by kernel_rfl) (by omega) (by decide +kernel) t2 w2 (fun n cs' y hn hy hwy=>by
  obtain⟨m,hs1,hs2⟩:=G8 hy hwy
  exact⟨aC m,hs1,rfl,m,rfl,hs2⟩)
 obtain⟨ms,rfl,hms⟩:=fd xss h2
 refine⟨⟨b,d,ms⟩,CellsR.of (by rw[hl];rfl) fun j y hy=>?_,cV l1,by rw[a_]at h3;exact cV h3,hms⟩
 simp only[aG]at hy
 match j with
 |0=>simp at hy;subst hy;exact⟨v0,e0,r0.get1⟩
 |1=>simp at hy;subst hy;exact⟨v1,e1,r1.get1⟩
 |2=>simp at hy;subst hy;exact⟨v2,e2,h1.get1⟩
 |j+3=>simp at hy
theorem Ha {fuel:Nat}{cs:List Value}{x:DataW H×List MemPlace}(h:DataW.trod enc Tryz.prog w 0 (fun _=>true) true fuel 43 cs=some x)(hw:Wt Tryz.prog 43 x.1) :
  ∃a:Rul,CellsR (GhW w) cs (ax a)/\CJ a:=by
 obtain⟨n,hn,hl,hf⟩:=A5 Tryz.underlying43 h hw
 obtain⟨y0,t0,w0⟩:=hf 0 _ rfl
 obtain⟨y1,t1,w1⟩:=hf 1 _ rfl
 have c4:Tryz.prog.cellsOf 43=4:=by kernel_rfl
 have c3:Tryz.prog.cellsOf 40=3:=by kernel_rfl
 have c1:Tryz.prog.cellsOf 41=1:=by kernel_rfl
 rw[c4]at hl
 have t0':DataW.trod enc Tryz.prog w 0 (fun _=>true) true n 40 (cs.take 3)=some y0:=by rw[<- c3];exact t0
 have t1':DataW.trod enc Tryz.prog w 0 (fun _=>true) true n 41 ((cs.drop 3).take 1)=some y1:=by rw[<- c1];exact t1
 obtain⟨a,r0,l0⟩:=A6 t0' w0
 obtain⟨xss,h1,h2,h3⟩:=eM (Q:=fun xs=>∃t:Atm,xs=aG t/\pf t) (sz:=3) Tryz.underlying41 (by kernel_rfl) (by omega) (by decide +kernel) t1' w1 (fun n cs' y hn hy hwy=>by
  obtain⟨m,hs1,hs2⟩:=A6 hy hwy
  exact⟨aG m,hs1,rfl,m,rfl,hs2⟩)
 obtain⟨ms,rfl,hms⟩:=fd xss h2
 refine⟨⟨a,ms⟩,?_,l0,by rw[a_]at h3;exact cV h3,hms⟩
 have e:cs=cs.take 3++(cs.drop 3).take 1:=by
  rw[B_ (l:=cs.drop 3) (by rw[D_];omega),List.take_append_drop]
 rw[e]
 obtain⟨an,ar,at_⟩:=a
 exact r0.appU h1
theorem Kx {fuel:Nat}{cs:List Value}{x:DataW H×List MemPlace}(h:DataW.trod enc Tryz.prog w 0 (fun _=>true) true fuel 63 cs=some x)(hw:Wt Tryz.prog 63 x.1) :
  ∃t:Dm,CellsR (GhW w) cs (dmC t)/\EP t:=by
 obtain⟨n,hn,hl,hf⟩:=fG Tryz.underlying63 (by kernel_rfl) (dN (by decide +kernel)) h hw
 obtain⟨v0,y0,e0,t0,w0⟩:=hf 0 _ rfl
 obtain⟨v1,y1,e1,t1,w1⟩:=hf 1 _ rfl
 obtain⟨d,r0,l0⟩:=lC (GhW w) Tryz.underlying9 t0 w0
 obtain⟨k,r1,l1⟩:=vd (GhW w) Tryz.underlying3 t1
 refine⟨⟨d,k⟩,CellsR.of (by rw[hl];rfl) fun j y hy=>?_,cV l0,l1⟩
 simp only[dmC]at hy
 match j with
 |0=>simp at hy;subst hy;exact⟨v0,e0,r0.get1⟩
 |1=>simp at hy;subst hy;exact⟨v1,e1,r1.get1⟩
 |j+2=>simp at hy
theorem Hb {fuel:Nat}{cs:List Value}{x:DataW H×List MemPlace}(h:DataW.trod enc Tryz.prog w 0 (fun _=>true) true fuel 66 cs=some x)(hw:Wt Tryz.prog 66 x.1) :
  ∃t:Dcl,CellsR (GhW w) cs (az t)/\yk t:=by
 obtain⟨n,hn,hl,hf⟩:=fG Tryz.underlying66 (by kernel_rfl) (dN (by decide +kernel)) h hw
 obtain⟨v0,y0,e0,t0,w0⟩:=hf 0 _ rfl
 obtain⟨v1,y1,e1,t1,w1⟩:=hf 1 _ rfl
 obtain⟨d,r0,l0⟩:=lC (GhW w) Tryz.underlying9 t0 w0
 obtain⟨l,r1,l1⟩:=A2 t1 w1
 refine⟨⟨d,l⟩,CellsR.of (by rw[hl];rfl) fun j y hy=>?_,cV l0,l1⟩
 simp only[az]at hy
 match j with
 |0=>simp at hy;subst hy;exact⟨v0,e0,r0.get1⟩
 |1=>simp at hy;subst hy;exact⟨v1,e1,r1.get1⟩
 |j+2=>simp at hy
theorem A4 {fuel:Nat}{cs:List Value}{x:DataW H×List MemPlace}(h:DataW.trod enc Tryz.prog w 0 (fun _=>true) true fuel 26 cs=some x)(hw:Wt Tryz.prog 26 x.1) :
  ∃t:Pgm,CellsR (GhW w) cs (pgC t)/\PgmOk t:=by
 obtain⟨n,hn,hl,hf⟩:=fG Tryz.underlying26 (by kernel_rfl) (dN (by decide +kernel)) h hw
 obtain⟨v0,y0,e0,t0,w0⟩:=hf 0 _ rfl
 obtain⟨v1,y1,e1,t1,w1⟩:=hf 1 _ rfl
 obtain⟨v2,y2,e2,t2,w2⟩:=hf 2 _ rfl
 obtain⟨x0,r0,p0,q0⟩:=eM (Q:=fun xs=>∃t:Dm,xs=dmC t/\EP t) (sz:=2) Tryz.underlying22 (by kernel_rfl) (by omega) (by decide +kernel) t0 w0 (fun n cs' y hn hy hwy=>by
  obtain⟨m,hs1,hs2⟩:=Kx hy hwy
  exact⟨dmC m,hs1,rfl,m,rfl,hs2⟩)
 obtain⟨x1,r1,p1,q1⟩:=eM (Q:=fun xs=>∃t:Dcl,xs=az t/\yk t) (sz:=2) Tryz.underlying23 (by kernel_rfl) (by omega) (by decide +kernel) t1 w1 (fun n cs' y hn hy hwy=>by
  obtain⟨m,hs1,hs2⟩:=Hb hy hwy
  exact⟨az m,hs1,rfl,m,rfl,hs2⟩)
 obtain⟨x2,r2,p2,q2⟩:=eM (Q:=fun xs=>∃t:Rul,xs=ax t/\CJ t) (sz:=4) Tryz.underlying24 (by kernel_rfl) (by omega) (by decide +kernel) t2 w2 (fun n cs' y hn hy hwy=>by
  obtain⟨m,hs1,hs2⟩:=Ha hy hwy
  exact⟨ax m,hs1,rfl,m,rfl,hs2⟩)
 obtain⟨m0,rfl,hm0⟩:=fd x0 p0
 obtain⟨m1,rfl,hm1⟩:=fd x1 p1
 obtain⟨m2,rfl,hm2⟩:=fd x2 p2
 rw[a_]at q0 q1 q2
 refine⟨⟨m0,m1,m2⟩,CellsR.of (by rw[hl];rfl) fun j y hy=>?_,cV q0,cV q1,cV q2,hm0,hm1,hm2⟩
 simp only[pgC]at hy
 match j with
 |0=>simp at hy;subst hy;exact⟨v0,e0,r0.get1⟩
 |1=>simp at hy;subst hy;exact⟨v1,e1,r1.get1⟩
 |2=>simp at hy;subst hy;exact⟨v2,e2,r2.get1⟩
 |j+3=>simp at hy
end
end Go.Proofs.YteldpmgepfaiiaaGreatDoor
