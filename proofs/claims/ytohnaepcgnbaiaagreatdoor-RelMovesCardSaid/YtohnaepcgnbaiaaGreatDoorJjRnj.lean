/- Walks of functions that the claim reaches, and plain facts of them. Conditions: those in the statements. -/
import Derived.Test.YtohnaepcgnbaiaaGreatDoorJjRhj
import Derived.Test.YtohnaepcgnbaiaaGreatDoorJjPkj
import Derived.Test.YtohnaepcgnbaiaaGreatDoorJjIyj
import Derived.Test.YtohnaepcgnbaiaaGreatDoorJjSoundFj
import Derived.Test.YtohnaepcgnbaiaaGreatDoorJjQmj
import Derived.Laws.RangeAny
set_option linter.unusedSimpArgs false
set_option linter.unusedVariables false
set_option maxRecDepth 100000
namespace Go.Proofs.YtohnaepcgnbaiaaGreatDoor
open Go.RowKit
def wdsOf (at_:List (List Nat))(ks:List Nat):List Nat:=ks.map fun k=>(at_.getD k []).length
def rowU (wd:List Nat)(m:Nat):List Int:=(splitW wd m).map fun(k:Nat)=>(k:Int)
theorem splitW_len:∀{wd:List Nat} {m:Nat},(splitW wd m).length=wd.length
 |[],_=>rfl
 |w::ws,m=>by simp only[splitW,List.length_cons,splitW_len]
theorem rowT_len {wd:List Nat}{m:Nat}:(rowU wd m).length=wd.length:=by rw[rowU,List.length_map,splitW_len]
theorem varsOf_flat (at_:List (List Nat))(ks:List Nat):varsOf at_ ks=(ks.map fun k=>at_.getD k []).flatten:=rfl
theorem wdsOf_eq (at_:List (List Nat))(ks:List Nat):wdsOf at_ ks=(ks.map fun k=>at_.getD k []).map (·.length):=by simp[wdsOf,Function.comp]
theorem flat_apart:∀{L:List (List Nat)} {i j:Nat} {a b:List Nat},L.flatten.Nodup→L[i]?=some a→L[j]?=some b→i≠j→∀x,x∈a→x∈b→False
 |[],i,j,a,b,_,h,_,_=>by simp at h
 |c::L,i,j,a,b,hn,hi,hj,hne=>by
  rw[List.flatten_cons,List.nodup_append]at hn
  obtain⟨h1,h2,h3⟩:=hn
  have mem:∀{k:Nat} {d:List Nat},L[k]?=some d→∀x,x∈d→x∈L.flatten:=fun hk x hx=>List.mem_flatten.2 ⟨_,List.mem_of_getElem? hk,hx⟩
  cases i with
  |zero=>
   cases j with
   |zero=>exact absurd rfl hne
   |succ j=>
    simp at hi hj
    subst hi
    intro x hx hy
    exact h3 x hx x (mem hj x hy) rfl
  |succ i=>
   cases j with
   |zero=>
    simp at hi hj
    subst hj
    intro x hx hy
    exact h3 x hy x (mem hi x hx) rfl
   |succ j=>exact flat_apart h2 (by simpa using hi) (by simpa using hj) (by omega)
theorem flat_nd:∀{L:List (List Nat)} {a:List Nat},L.flatten.Nodup→a∈L→a.Nodup
 |[],a,_,h=>by simp at h
 |c::L,a,hn,h=>by
  rw[List.flatten_cons,List.nodup_append]at hn
  rcases List.mem_cons.1 h with rfl|h
  ·exact hn.1
  ·exact flat_nd hn.2.1 h
theorem DOk.getD {n:Nat}{ds:List (List UInt8×Nat)}{at_:List (List Nat)}(h:DOk n ds at_){k:Nat}(hk:k<ds.length):at_[k]?=some (at_.getD k [])∧(at_.getD k []).length≤30∧∀v,v∈at_.getD k []→v<n:=by
 obtain⟨nm,sz,l,h1,h2,h3,h4,h5,h6,h7⟩:=h.get hk
 have e:at_.getD k []=l:=by rw[List.getD_eq_getElem?_getD,h2];rfl
 rw[e]
 exact⟨h2,h6,h7⟩
theorem varsOf_nd {n:Nat}{ds:List (List UInt8×Nat)}{at_:List (List Nat)}(h:DOk n ds at_){ks:List Nat}(hn:ks.Nodup)(hk:∀k,k∈ks→k<ds.length):(varsOf at_ ks).Nodup:=by
 refine nodup_flat (fun k hm=>flat_nd h.nd (List.mem_of_getElem? (h.getD (hk k hm)).1)) ?_
 refine List.Pairwise.imp_of_mem (fun {a b} ha hb hne x hx hy=>?_) hn
 exact flat_apart h.nd (h.getD (hk a ha)).1 (h.getD (hk b hb)).1 hne x hx hy
theorem varsOf_lt {n:Nat}{ds:List (List UInt8×Nat)}{at_:List (List Nat)}(h:DOk n ds at_){ks:List Nat}(hk:∀k,k∈ks→k<ds.length):∀v,v∈varsOf at_ ks→v<n:=fun v hv=>by
 obtain⟨k,hm,hv⟩:=List.mem_flatMap.1 hv
 exact(h.getD (hk k hm)).2.2 v hv
def tupR (t:Tr)(at_:List (List Nat))(ks:List Nat):List (List Int):=(satV t (varsOf at_ ks)).map (rowU (wdsOf at_ ks))
theorem tupR_nodup (t:Tr)(at_:List (List Nat))(ks:List Nat):(tupR t at_ ks).Nodup:=by
 have h:=sat_nodup (t:=t) (ds:=ks.map fun k=>at_.getD k [])
 rw[← varsOf_flat,← wdsOf_eq]at h
 have e:tupR t at_ ks=((satV t (varsOf at_ ks)).map (splitW (wdsOf at_ ks))).map (fun l=>l.map fun(k:Nat)=>(k:Int)):=by
  simp[tupR,rowU,Function.comp]
 rw[e,List.nodup_iff_pairwise_ne,List.pairwise_map]
 refine List.Pairwise.imp (fun {a b} hne he=>hne ?_) h
 exact(List.map_inj_right (fun x y h=>by omega)).1 he
theorem shr_div {m w:Nat}(hm:m<2 ^ 62)(hw:w≤62):vint .shr .i64 (m:Int) (w:Int)=some (.int .i64 ((m / 2 ^ w:Nat):Int)):=by
 have hp:((2:Int) ^ w)=((2 ^ w:Nat):Int):=by simp
 have h0:(0:Int)≤(w:Int):=Int.natCast_nonneg _
 simp only[vint,if_pos h0]
 have h1:min ((w:Int).toNat) IntKind.i64.bits=w:=by simp[IntKind.bits];omega
 rw[h1,hp,Int.fdiv_eq_ediv_of_nonneg _ (Int.natCast_nonneg _)]
 rfl
def RowS (s u:St)(x:VV)(j:Nat)(rows:List (List Int)):Prop:=
 (j=0∧rows=[]∧u=s∧x=.raw (.slice none 0 0))∨(0<j∧∃g,s g=.free∧u=s.set g (.row 28 1 (rows.map rowV))∧x=.mrw g rows.length)
theorem and_lowN {m w:Nat}(hw:w≤61):vint .and .i64 (m:Int) (((2 ^ w:Nat):Int) - 1)=some (.int .i64 ((m % 2 ^ w:Nat):Int)):=by
 have h:=and_low hw (m:Int)
 have hle:2 ^ w≤2 ^ 61:=Nat.pow_le_pow_right (by omega) hw
 have hpos:0<2 ^ w:=Nat.two_pow_pos w
 rw[wrap_i64 (by omega) (by omega)]at h
 rw[h]
 have:addP w (m:Int)=m % 2 ^ w:=by
  unfold addP
  have hp:((2:Int) ^ w)=((2 ^ w:Nat):Int):=by simp
  (rw[hp];omega)
 rw[this]
attribute [-go_sem] p_and p_or p_shl p_shr
set_option maxHeartbeats 16000000 in
theorem Ctuples_S {s:St}{KK:OB}{q c n B:Nat}{ns:List Tr}{ds:List (List UInt8×Nat)}{at_:List (List Nat)}(hC:CMem s KK q c n B ns ds at_)(hD:DOk n ds at_)(hn:n≤256)(ks:List Nat)(ow:Own)(hks:∀k,k∈ks→k<ds.length)(hl:ks.length≤32)(hnd:ks.Nodup){t:Tr}(ht:t∈ns)
  (hoc:∀v,occT v t=true→v∈varsOf at_ ks) (h61:(varsOf at_ ks).length≤61) {most:Nat} (hm:most≤16384) (hc:(tupR t at_ ks).length≤most) :
  SRet Tryz.prog 36 [.ptr c 0,.int .i64 (ixN ns t:Nat),.lst (natsL ks) ow,.int .i64 most] s (.tup [.lst (rwsC (sortR (tupR t at_ ks))) .no,.int .i64 0]) s:=by
 have wv:=Cvars_S hC hD ks ow hks hl
 rw[if_pos hnd]at wv
 have hvn:=varsOf_nd hD hnd hks
 have hvl:=varsOf_lt hD hks
 obtain⟨mk,hM⟩:=hC.om.st.mem
 have hsl:(tupR t at_ ks).length=(satV t (varsOf at_ ks)).length:=by simp[tupR]
 have we:=Keach_S hM hC.om.st.ok hn (by have:=hC.om.st.bd;omega) ht hvn hvl hoc h61 hm (by omega)
 obtain⟨d,cc,ho⟩:=hC.om.op
 have wq:=Qops_S s q KK.o KK.s.p hC.qo
 have ws:=Ostore_S s KK.o KK.s.p d cc ho
 have hco:=hC.co
 have hnd2:=tupR_nodup t at_ ks
 have hlt:∀m,m∈satV t (varsOf at_ ks)→m<2 ^ 61:=fun m h=>by
  have:=(satV_mem.1 h).1
  exact Nat.lt_of_lt_of_le this (Nat.pow_le_pow_right (by omega) h61)
 have hat:=fun(i k:Nat) (h:ks[i]?=some k)=>natsL_at h
 have hat2:=fun(i k:Nat) (h:(satV t (varsOf at_ ks))[i]?=some k)=>natsL_at h
 have hA2:∀k,k∈ks→(atC at_)[k]?=some [.lst (natsL (at_.getD k [])) .no]∧(at_.getD k []).length≤30:=fun k hk=>⟨atC_at (hD.getD (hks k hk)).1,(hD.getD (hks k hk)).2.1⟩
 have hln:(natsL ks).length=ks.length:=natsL_len
 have hlv:(natsL (varsOf at_ ks)).length=(varsOf at_ ks).length:=natsL_len
 have hls:(natsL (satV t (varsOf at_ ks))).length=(satV t (varsOf at_ ks)).length:=natsL_len
 have hwl:(wdsOf at_ ks).length=ks.length:=by simp[wdsOf]
 have hwd:∀(i k:Nat),ks[i]?=some k→(wdsOf at_ ks)[i]?=some (at_.getD k []).length:=fun i k h=>by simp[wdsOf,h]
 have hm1:¬ (most:Int)<0:=by omega
 have hm3:¬ (most:Int) > 16384:=by omega
 have hv62:¬ ((varsOf at_ ks).length:Int) > 62:=by omega
 have htR:tupR t at_ ks=(satV t (varsOf at_ ks)).map (rowU (wdsOf at_ ks)):=rfl
 have hsle:(satV t (varsOf at_ ks)).length≤16384:=by omega
 clear hC hD hks hnd ht hoc h61 hvn hvl hM hc hsl
 generalize tupR t at_ ks=TR at *
 generalize satV t (varsOf at_ ks)=SV at *
 generalize wdsOf at_ ks=wd at *
 generalize varsOf at_ ks=vs at *
 generalize ixN ns t=k at *
 generalize hVK:natsL ks=VK at *
 generalize hVS:natsL SV=VS at *
 generalize natsL vs=VV' at *
 generalize hAC:atC at_=AC at *
 generalize domsC ds=DC at *
 have HAT:=Lib.hid hat
 have HAT2:=Lib.hid hat2
 have HA2:=Lib.hid hA2
 have HLT:=Lib.hid hlt
 have HWD:=Lib.hid hwd
 have HND:=Lib.hid hnd2
 have HTR:=Lib.hid htR
 clear hat hat2 hA2 hlt hwd hnd2 htR hVK hVS hAC ho
 rw[← hlv]at hv62
 refine G_enter Tryz.func36 rfl Tryz.ntmps36 rfl fun Q hQ hQe=>?_
 (repeat'(first|(with_reducible refine Kp_atQ 8 ?_)|refine Ctl ?_|((with_reducible refine Kof.use hK ?_);clear hK hE K E)|((with_reducible refine W_cond (fun h=>?_) (fun h=>?_))<;>(try(exfalso;first|assumption|omega)))|(((with_reducible first|refine G_region fun K E hK hE=>?_|refine call_ret can41 (wv) ?_|refine call_ret can39 (wq) ?_|refine call_ret can57 (ws) ?_|refine call_ret can69 (we) ?_))<;>(try simp(disch:=omega) only[go_sem,seval,hv62,hm1,hm3,hln, *]))))
 unfold StopQ
 refine Kp_rawnil 13 (z_sl) ?_
 (repeat'(first|refine Ctl ?_|((with_reducible refine Kof.use hK ?_);clear hK hE K E)|(((with_reducible refine G_region fun K E hK hE=>?_))<;>(try simp(disch:=omega) only[go_sem,seval,hls, *]))))
 refine G_loop (fun m env s'=>∃(j:Nat) (x:VV),j≤SV.length∧m+j=SV.length∧Hid (RowS s s' x j ((SV.take j).map (rowU wd)))∧env 0=.ptr c 0∧env 2=.lst VK ow∧env 13=x∧env 57=.lst VS .no∧env 58=.int .i64 SV.length∧env 59=.int .i64 j) SV.length ?_ ?_
 ·exact⟨_,Fg.refl _,0,_,by omega,by omega,Lib.hid (.inl ⟨rfl,rfl,rfl,rfl⟩),z_sl,z_sl,z_sl,z_sl,z_sl,z_sl⟩
 clear we wv
 rintro m env u ⟨j,x,hj,hmj,HO,e0,e2,e13,e57,e58,e59⟩
 by_cases h2:j<SV.length
 ·have hx:=HAT2.out j _ (List.getElem?_eq_getElem h2)
  have hmlt:=HLT.out _ (List.getElem_mem h2)
  have htk:(SV.take (j+1)).map (rowU wd)=(SV.take j).map (rowU wd)++[rowU wd SV[j]]:=by
   rw[List.take_add_one,List.getElem?_eq_getElem h2,List.map_append]
   rfl
  generalize SV[j]=m0 at *
  have huco:u c=.obj 132 [.ptr q 0,.lst DC .no,.lst AC .no]:=by
   rcases HO.out with ⟨_,_,hu,_⟩|⟨_,g,hg,hu,_⟩
   ·rw[hu];exact hco
   ·rw[hu,St.set_other _ _ (nef hg (by rw[hco];simp)).1];exact hco
  have hcf:u c≠.free:=by rw[huco];simp
  have hs0:Hid (splitW wd m0=[]++splitW (wd.drop 0) m0):=Lib.hid (by rw[List.drop_zero,List.nil_append])
  have hnl0:natsL ([]:List Nat)=[]:=rfl
  have HTK:=Lib.hid htk
  clear htk
  (repeat'(first|refine Ctl ?_|((with_reducible refine Kof.use hK ?_);clear hK hE K E)|((with_reducible refine W_cond (fun h=>?_) (fun h=>?_))<;>(try(exfalso;assumption)))|(((with_reducible refine G_region fun K E hK hE=>?_))<;>(try simp(disch:=omega) only[go_sem,seval,hx,hln, *]))))
  refine G_loop (fun m2 env s'=>∃(i mc:Nat) (rw_:List Nat) (o:Own),i≤ks.length∧m2+i=ks.length∧Hid (splitW wd m0=rw_++splitW (wd.drop i) mc)∧mc<2 ^ 61∧rw_.length=i∧OwnOk u o i∧s'=u.own o 3 1 i∧env 0=.ptr c 0∧env 2=.lst VK ow∧env 13=x∧env 57=.lst VS .no∧env 58=.int .i64 SV.length∧env 59=.int .i64 j∧env 15=.int .i64 mc∧env 16=.lst (natsL rw_) o∧env 63=.lst VK ow∧env 64=.int .i64 ks.length∧env 65=.int .i64 i) ks.length ?_ ?_
  ·exact⟨_,Fg.refl _,0,m0,[],.full,by omega,by omega,hs0,hmlt,rfl,rfl,rfl,z_sl,z_sl,z_sl,z_sl,z_sl,z_sl,z_sl,by(rw[hnl0];((try simp(disch:=assumption) only[go_sem,seval, *])<;>rfl)),z_sl,z_sl,z_sl⟩
  clear e0 e2 e13 e57 e58 e59 hs0 hnl0 hx hmlt
  rintro m2 env s' ⟨i,mc,rw_,o,hi,hmi,HE,hmc,hrl,hO,rfl,e0,e2,e13,e57,e58,e59,e15,e16,e63,e64,e65⟩
  have p2:=hO.not hcf
  by_cases h3:i<ks.length
  ·have hkx:=HAT.out i _ (List.getElem?_eq_getElem h3)
   obtain⟨ha,hal⟩:=HA2.out _ (List.getElem_mem h3)
   have hw:=HWD.out i _ (List.getElem?_eq_getElem h3)
   have hwlen:(natsL (at_.getD ks[i] [])).length=(at_.getD ks[i] []).length:=natsL_len
   obtain⟨hw1,hw2⟩:=List.getElem?_eq_some_iff.1 hw
   have hsp:=HE.out
   rw[List.drop_eq_getElem_cons hw1,hw2]at hsp
   simp only[splitW]at hsp
   generalize (at_.getD ks[i] []).length=w at *
   generalize natsL (at_.getD ks[i] [])=WL at *
   generalize ks[i]=kx at *
   have hsh:=shl_one (k:=w) (by omega)
   have hand:=and_lowN (m:=mc) (w:=w) (by omega)
   have hshr:=shr_div (m:=mc) (w:=w) (by omega) (by omega)
   have hdl:mc / 2 ^ w≤mc:=Nat.div_le_self _ _
   have hpw:2 ^ w≤2 ^ 61:=Nat.pow_le_pow_right (by omega) (by omega)
   have hpp:0<2 ^ w:=Nat.two_pow_pos w
   have hnr:natsL (rw_++[mc % 2 ^ w])=natsL rw_++[[.int .i64 ((mc % 2 ^ w:Nat):Int)]]:=natsL_add
   have hnl:(natsL rw_).length=i:=by rw[natsL_len,hrl]
   have HE2:Hid (splitW wd m0=(rw_++[mc % 2 ^ w])++splitW (wd.drop (i+1)) (mc / 2 ^ w)):=Lib.hid (by rw[hsp,List.append_assoc];rfl)
   have HRL:Hid ((rw_++[mc % 2 ^ w]).length=i+1):=Lib.hid (by rw[List.length_append,hrl];rfl)
   have HNR:=Lib.hid hnr
   clear HE hsp hw hw1 hw2 hnr hrl
   generalize rw_++[mc % 2 ^ w]=rw2 at *
   generalize natsL rw_=RL at *
   generalize mc % 2 ^ w=mr at *
   generalize mc / 2 ^ w=mq at *
   generalize 2 ^ w=PW at *
   (repeat'(first|refine Ctl ?_|((with_reducible refine Kof.use hK ?_);clear hK hE K E)|((with_reducible refine W_cond (fun h=>?_) (fun h=>?_))<;>(try(exfalso;assumption)))|((first|(with_reducible refine G_region fun K E hK hE=>?_)|((with_reducible refine W_app (fun o2 ho=>?_));(try simp(disch:=assumption) only[disown_set,disown_own,ownok_o,ownok_m,List.length_map,List.length_cons,List.length_nil,Nat.zero_add,hkx,ha,hwlen,hsh,hand,hshr,hnl]at ho)))<;>(try simp(disch:=first|assumption|omega) only[go_sem,seval,hkx,ha,hwlen,hsh,hand,hshr,hnl, *]))))
   all_goals exact⟨_,Fg.refl _,m2 - 1,by omega,i+1,mq,rw2,o2,by omega,by omega,HE2,by omega,HRL.out,ho,rfl,z_sl,z_sl,z_sl,z_sl,z_sl,z_sl,z_sl,by(rw[HNR.out];((try simp(disch:=assumption) only[go_sem,seval, *])<;>rfl)),z_sl,z_sl,z_sl⟩
  ·have hik:i=ks.length:=by omega
   have hrw:natsL rw_=intsL (rowU wd m0):=by
    have h1:=HE.out
    rw[List.drop_of_length_le (by omega)]at h1
    simp only[splitW,List.append_nil]at h1
    rw[rowU,h1,natsL_ints]
   (repeat'(first|(with_reducible refine Kp_atQ 19 ?_)|refine Ctl ?_|((with_reducible refine Kof.use hK ?_);clear hK hE K E)|((with_reducible refine W_cond (fun h=>?_) (fun h=>?_))<;>(try(exfalso;omega)))|(((with_reducible refine G_region fun K E hK hE=>?_))<;>(try simp(disch:=omega) only[go_sem,seval, *]))))
   unfold StopQ
   refine Kp_wkt 16 (x:=.lst (natsL rw_) o) (y:=.lst (natsL rw_) .no) (z_sl) (Wk.lst _ _) ?_
   refine Kp_forget (s':=u) (Fg.own hO) ?_
   rw[hrw]
   have hadd:=HTK.out
   have HH:=Lib.hid hadd
   have hrl1:∀y:List VV,y=[.lst (intsL (rowU wd m0)) .no]→y.length=1:=fun y hy=>by rw[hy];rfl
   clear HE hrw hO p2 hadd HTK
   rcases HO.out with ⟨h0,hO0,hu,hx0⟩|⟨h0,g,hg,hu,hx0⟩
   ·subst hu hx0 h0
    rw[hO0,List.nil_append]at HH
    clear HO hO0
    generalize hLX:intsL (rowU wd m0)=LX at *
    have HLX:=Lib.hid hLX
    clear hLX
    (repeat'(first|refine Ctl ?_|((with_reducible refine Kof.use hK ?_);clear hK hE K E)|((first|(with_reducible refine G_region fun K E hK hE=>?_)|((with_reducible refine W_app0 (fun bM hM=>?_))))<;>(try simp(disch:=omega) only[go_sem,seval,Nat.mul_one, *]))))
    refine⟨_,Fg.refl _,m - 1,by omega,0+1,_,by omega,by omega,Lib.hid (.inr ⟨by omega,bM,hM,?_,?_⟩),z_sl,z_sl,z_sl,z_sl,z_sl,z_sl⟩
    ·rw[HH.out,← HLX.out];rfl
    ·rw[HH.out];rfl
   ·subst hu hx0
    have hrlen:((SV.take j).map (rowU wd)).length=j:=by rw[List.length_map,List.length_take];omega
    have hxl:(((SV.take j).map (rowU wd)).map rowV).length=j:=by rw[List.length_map,hrlen]
    have hsg:s.set g .free=s:=St.set_self _ _ _ hg
    have hap:((SV.take (j+1)).map (rowU wd)).map rowV=((SV.take j).map (rowU wd)).map rowV++[.lst (intsL (rowU wd m0)) .no]:=by rw[HH.out,List.map_append];rfl
    have hapl:((SV.take (j+1)).map (rowU wd)).length=j+1:=by rw[List.length_map,List.length_take];omega
    have HAP:=Lib.hid (And.intro hap hapl)
    clear hap hapl HO HH huco
    rw[hrlen]at e13
    generalize intsL (rowU wd m0)=LX at *
    generalize ((SV.take j).map (rowU wd)).map rowV=XR at *
    clear hrlen
    (repeat'(first|refine Ctl ?_|((with_reducible refine Kof.use hK ?_);clear hK hE K E)|((first|(with_reducible refine G_region fun K E hK hE=>?_)|((with_reducible refine W_appM (fun bM hM=>?_))))<;>(try simp(disch:=omega) only[go_sem,seval,Nat.mul_one,hxl,hsg,St.set_set, *]))))
    exact⟨_,Fg.refl _,m - 1,by omega,j+1,_,by omega,by omega,Lib.hid (.inr ⟨by omega,bM,hM,by rw[HAP.out.1];rfl,by rw[HAP.out.2]⟩),z_sl,z_sl,z_sl,z_sl,z_sl,z_sl⟩
 ·have hjc:j=SV.length:=by omega
  subst hjc
  have hall:(SV.take SV.length).map (rowU wd)=TR:=by rw[List.take_length];exact HTR.out.symm
  have ho:=HO.out
  rw[hall]at ho
  clear HO
  rcases ho with ⟨h0,hO0,hu,hx0⟩|⟨h0,g,hg,hu,hx0⟩
  ·subst hu hx0
   have wz:=Sort0_S u []
   have HTN:=Lib.hid hO0
   clear hO0
   (repeat'(first|(with_reducible refine Kp_atQ 22 ?_)|refine Ctl ?_|((with_reducible refine Kof.use hK ?_);clear hK hE K E)|((with_reducible refine W_cond (fun h=>?_) (fun h=>?_))<;>(try(exfalso;assumption)))|(((with_reducible first|refine G_region fun K E hK hE=>?_|refine call_ret can70 (wz) ?_))<;>(try simp(disch:=omega) only[go_sem,seval, *]))))
   unfold StopQ
   refine Kp_wkt 13 (x:=.raw (.slice none 0 0)) (y:=.lst [] .no) (z_sl) Wk.rawnil ?_
   (repeat'(first|refine Ctl ?_|((with_reducible refine Kof.use hK ?_);clear hK hE K E)|(((with_reducible refine G_region fun K E hK hE=>?_))<;>(try simp(disch:=omega) only[go_sem,seval, *]))))
   all_goals(refine W_ret res36 hQ ?_)
   rw[HTN.out]
   exact⟨_,_,Wk.refl _,Fg.refl _,rfl,rfl⟩
  ·subst hu hx0
   have hTRl:TR.length=SV.length:=by rw[HTR.out,List.length_map]
   have hpm:(sortR TR).length=TR.length:=((List.perm_ext_iff_of_nodup (sortR_rising TR).nodup HND.out).2 fun r=>sortR_mem).length_eq
   have wz:=Sort_S TR g 28 (by omega) HND.out (fun r hr=>by
    rw[HTR.out]at hr
    obtain⟨z,_,rfl⟩:=List.mem_map.1 hr
    rw[rowT_len,hwl]
    omega) (s.set g (.row 28 1 (TR.map rowV))) (St.set_same _ _ _)
   rw[St.set_set]at wz
   have hsg:s.set g .free=s:=St.set_self _ _ _ hg
   have hfz:((sortR TR).map rowV).map (fun y=>[y])=rwsC (sortR TR):=by simp[rwsC,Function.comp]
   have hil:((sortR TR).map rowV).length=TR.length:=by rw[List.length_map,hpm]
   clear hpm hTRl hall
   generalize TR.map rowV=OX at *
   generalize TR.length=ol at *
   generalize (sortR TR).map rowV=SX at *
   generalize rwsC (sortR TR)=RS at *
   (repeat'(first|(with_reducible refine Kp_atQ 22 ?_)|refine Ctl ?_|((with_reducible refine Kof.use hK ?_);clear hK hE K E)|((with_reducible refine W_cond (fun h=>?_) (fun h=>?_))<;>(try(exfalso;assumption)))|(((with_reducible first|refine G_region fun K E hK hE=>?_|refine call_ret can70 (wz) ?_))<;>(try simp(disch:=omega) only[go_sem,seval, *]))))
   unfold StopQ
   refine Kp_frzR 13 g ol (St.set_same _ _ _) (z_sl) hil ?_
   rw[hfz,St.set_set,hsg]
   (repeat'(first|refine Ctl ?_|((with_reducible refine Kof.use hK ?_);clear hK hE K E)|(((with_reducible refine G_region fun K E hK hE=>?_))<;>(try simp(disch:=omega) only[go_sem,seval, *]))))
   all_goals(refine W_ret res36 hQ ?_)
   exact⟨_,_,Wk.refl _,Fg.refl _,rfl,rfl⟩
end Go.Proofs.YtohnaepcgnbaiaaGreatDoor
namespace Go.Proofs.YtohnaepcgnbaiaaGreatDoor
open Go.RowKit
def nameB (l:List UInt8):Bool:=(decide (l≠[]) && decide (l.length≤16)) && l.all alnB
theorem odd_high {c:Nat}(h:128≤c):oddB c=true:=by
 simp only[oddB,Bool.and_eq_true,Bool.or_eq_true,decide_eq_true_eq]
 omega
theorem idx_from (s:ByteArray):∀(f pos:Nat),s.size - pos≤f→(Lib.idxFuncFrom oddB true s f pos<0↔∀(j:Nat) (b:UInt8),pos≤j→s.data.toList[j]?=some b→alnB b=true)
 |0,pos,h=>by
  have hsz:s.data.toList.length=s.size:=by rw[Array.length_toList];rfl
  constructor
  ·intro _ j b hj hb
   have:=(List.getElem?_eq_some_iff.1 hb).1
   omega
  ·intro _;unfold Lib.idxFuncFrom;omega
 |f+1,pos,h=>by
  have hsz:s.data.toList.length=s.size:=by rw[Array.length_toList];rfl
  unfold Lib.idxFuncFrom
  by_cases hp:pos<s.size
  ·rw[if_pos hp]
   have hb:s.data.toList[pos]?=some (s[pos]'hp):=by
    rw[List.getElem?_eq_getElem (by omega)]
    rfl
   by_cases hhi:128≤(s[pos]'hp).toNat
   ·obtain⟨h1,h2⟩:=_root_.Go.decode_high s pos hp hhi
    rw[if_pos (odd_high h1)]
    constructor
    ·intro h;omega
    ·intro h
     have:=h pos _ (Nat.le_refl _) hb
     simp only[alnB,odd_high hhi]at this
     cases this
   ·have hd:=_root_.Go.decode_ascii s pos hp (by omega)
    rw[hd]
    by_cases ho:oddB (s[pos]'hp).toNat=true
    ·rw[if_pos ho]
     constructor
     ·intro h;omega
     ·intro h
      have:=h pos _ (Nat.le_refl _) hb
      simp only[alnB,ho]at this
      cases this
    ·rw[if_neg ho,idx_from s f (pos+1) (by omega)]
     constructor
     ·intro h j b hj hjb
      by_cases e:j=pos
      ·subst e
       rw[hb]at hjb
       injection hjb with hjb
       subst hjb
       simp only[alnB]
       simpa using ho
      ·exact h j b (by omega) hjb
     ·intro h j b hj hjb
      exact h j b (by omega) hjb
  ·rw[if_neg hp]
   constructor
   ·intro _ j b hj hb
    have:=(List.getElem?_eq_some_iff.1 hb).1
    omega
   ·intro _;omega
theorem idx_neg (l:List UInt8):Lib.idxFunc oddB true ⟨l.toArray⟩<0↔l.all alnB=true:=by
 unfold Lib.idxFunc
 rw[idx_from _ _ _ (by omega),List.all_eq_true]
 constructor
 ·intro h b hb
  obtain⟨j,hj⟩:=List.mem_iff_getElem?.1 hb
  exact h j b (Nat.zero_le _) (by simpa using hj)
 ·intro h j b _ hj
  exact h b (List.mem_of_getElem? (by simpa using hj))
theorem IdxF_S (s:St)(l:List UInt8):SRet Tryz.prog 159 [.str l,.fn 158 []] s (.int .i64 (Lib.idxFunc oddB true ⟨l.toArray⟩)) s:=by
 intro w0 G w vs hS hA
 obtain⟨v1,v2,rfl,r1,r2⟩:=RL_two hA
 cases r1 with
 |str a=>
 cases r2 with
 |fn f vs xs hs hR=>
 have hv:vs=#[]:=by
  have:vs.size=0:=hs
  exact Array.eq_empty_of_size_eq_zero this
 subst hv
 refine(idx_odd ⟨a⟩ w).mono ?_
 rintro e w' ⟨rfl,hb⟩
 exact⟨G,s,.ret (.int .i64 (Lib.idxFunc oddB true ⟨a⟩)),Gh.le.refl G,hS.world hb,.int _ _,by simp,rfl⟩
set_option maxHeartbeats 2000000 in
theorem Lname_S (s:St)(l:List UInt8):SRet Tryz.prog 119 [.str l] s (.bool (nameB l)) s:=by
 have w1:=IdxF_S s l
 have h1:=idx_neg l
 generalize Lib.idxFunc oddB true ⟨l.toArray⟩=ix at *
 unfold nameB
 have h2:l.all alnB=decide (ix<0):=by
  by_cases e:ix<0
  ·rw[h1.1 e];simp[e]
  ·have:l.all alnB≠true:=fun h=>e (h1.2 h)
   simp only[Bool.not_eq_true]at this
   rw[this];simp[e]
 rw[h2]
 clear h1 h2
 by_cases h3:l=[]
 ·subst h3
  refine G_enter Tryz.func119 rfl Tryz.ntmps119 rfl fun Q hQ hQe=>?_
  (repeat'(first|refine Ctl ?_|((with_reducible refine Kof.use hK ?_);clear hK hE K E)|(((with_reducible refine G_region fun K E hK hE=>?_))<;>(try simp(disch:=omega) only[go_sem,seval, *]))))
  all_goals(refine W_ret res119 hQ ?_)
  all_goals exact⟨_,_,Wk.refl _,Fg.refl _,rfl,rfl⟩
 ·by_cases h4:l.length≤16
  ·have h4':((l.length:Nat):Int)≤16:=by omega
   have e3:decide (l≠[])=true:=decide_eq_true h3
   have e4:decide (l.length≤16)=true:=decide_eq_true h4
   rw[e3,e4]
   clear e3 e4 h4
   refine G_enter Tryz.func119 rfl Tryz.ntmps119 rfl fun Q hQ hQe=>?_
   (repeat'(first|refine Ctl ?_|((with_reducible refine Kof.use hK ?_);clear hK hE K E)|(((with_reducible first|refine G_region fun K E hK hE=>?_|refine call_ret can159 (w1) ?_))<;>(try simp(disch:=omega) only[go_sem,seval,h3,h4', *]))))
   all_goals(refine W_ret res119 hQ ?_)
   all_goals exact⟨_,_,Wk.refl _,Fg.refl _,by simp,rfl⟩
  ·have h4':¬ ((l.length:Nat):Int)≤16:=by omega
   have e3:decide (l≠[])=true:=decide_eq_true h3
   have e4:decide (l.length≤16)=false:=decide_eq_false h4
   rw[e3,e4]
   clear e3 e4 h4
   refine G_enter Tryz.func119 rfl Tryz.ntmps119 rfl fun Q hQ hQe=>?_
   (repeat'(first|refine Ctl ?_|((with_reducible refine Kof.use hK ?_);clear hK hE K E)|(((with_reducible refine G_region fun K E hK hE=>?_))<;>(try simp(disch:=omega) only[go_sem,seval,h3,h4', *]))))
   all_goals(refine W_ret res119 hQ ?_)
   all_goals exact⟨_,_,Wk.refl _,Fg.refl _,by simp,rfl⟩
def halvF:Nat→Nat→Nat
 |0,_=>0
 |f+1,m=>if m=0 then 0 else halvF f (m / 2)+1
theorem halvF_le:∀(f m:Nat),halvF f m≤f
 |0,_=>Nat.le_refl _
 |f+1,m=>by
  unfold halvF
  split
  ·omega
  ·have:=halvF_le f (m / 2);omega
theorem halvF_pow:∀(f m:Nat),m<2 ^ f→m<2 ^ halvF f m
 |0,m,h=>h
 |f+1,m,h=>by
  unfold halvF
  split
  ·omega
  ·have:=halvF_pow f (m / 2) (by rw[Nat.pow_succ]at h;omega)
   rw[Nat.pow_succ]
   omega
def widthN (n:Nat):Nat:=halvF 62 (n - 1)
attribute [-go_sem] p_and p_or p_shl p_shr
set_option maxHeartbeats 2000000 in
theorem Bwidth_S (s:St)(n:Int):SRet Tryz.prog 118 [.int .i64 n] s (.tup (if 1≤n∧n≤4611686018427387903 then [.int .i64 (widthN n.toNat:Nat),.int .i64 0] else [.int .i64 0,.int .i64 1])) s:=by
 by_cases h1:n<1
 ·rw[if_neg (by omega)]
  refine G_enter Tryz.func118 rfl Tryz.ntmps118 rfl fun Q hQ hQe=>?_
  (repeat'(first|refine Ctl ?_|((with_reducible refine Kof.use hK ?_);clear hK hE K E)|((with_reducible refine W_cond (fun h=>?_) (fun h=>?_))<;>(try(exfalso;assumption)))|(((with_reducible refine G_region fun K E hK hE=>?_))<;>(try simp(disch:=omega) only[go_sem,seval,h1, *]))))
  all_goals(refine W_ret res118 hQ ?_)
  all_goals exact⟨_,_,Wk.refl _,Fg.refl _,rfl,rfl⟩
 ·by_cases h2:n > 4611686018427387903
  ·rw[if_neg (by omega)]
   refine G_enter Tryz.func118 rfl Tryz.ntmps118 rfl fun Q hQ hQe=>?_
   (repeat'(first|refine Ctl ?_|((with_reducible refine Kof.use hK ?_);clear hK hE K E)|((with_reducible refine W_cond (fun h=>?_) (fun h=>?_))<;>(try(exfalso;assumption)))|(((with_reducible refine G_region fun K E hK hE=>?_))<;>(try simp(disch:=omega) only[go_sem,seval,h1,h2, *]))))
   all_goals(refine W_ret res118 hQ ?_)
   all_goals exact⟨_,_,Wk.refl _,Fg.refl _,rfl,rfl⟩
  ·rw[if_pos (by omega)]
   obtain⟨m,rfl⟩:∃m:Nat,n=((m+1:Nat):Int):=⟨n.toNat - 1,by omega⟩
   have e0:widthN (((m+1:Nat):Int)).toNat=halvF 62 m:=by simp[widthN]
   rw[e0]
   clear e0
   have hm:m<2 ^ 62:=by omega
   have e1:(((m+1:Nat):Int)) - 1=(m:Int):=by omega
   have hH:Hid (∃f:Nat,f≤62):=Lib.hid ⟨62,by omega⟩
   obtain⟨R,hR⟩:∃R,halvF 62 m=R:=⟨_,rfl⟩
   rw[hR]
   have hR2:Hid (halvF 62 m+0=R):=Lib.hid hR
   have HRl:=Lib.hid (show R≤62 by rw[← hR];exact halvF_le _ _)
   clear hR
   refine G_enter Tryz.func118 rfl Tryz.ntmps118 rfl fun Q hQ hQe=>?_
   (repeat'(first|refine Ctl ?_|((with_reducible refine Kof.use hK ?_);clear hK hE K E)|((with_reducible refine W_cond (fun h=>?_) (fun h=>?_))<;>(try(exfalso;assumption)))|(((with_reducible refine G_region fun K E hK hE=>?_))<;>(try simp(disch:=omega) only[go_sem,seval,h1,h2,e1, *]))))
   refine L_loop (fun fu env s'=>∃(k w:Nat),Hid (halvF fu k+w=R∧k<2 ^ fu)∧fu≤62∧s'=s∧env 4=.int .i64 w∧env 5=.int .i64 k) 62 ⟨m,0,Lib.hid ⟨hR2.out,hm⟩,by omega,rfl,z_sl,z_sl⟩ ?_
   clear hm h1 h2 e1 hR2 hH
   rintro fu env s' ⟨k,w,HH,hfu,rfl,e4,e5⟩
   have hRl:=HRl.out
   obtain⟨a1,a2⟩:=HH.out
   by_cases hk:k=0
   ·subst hk
    have hw:w=R:=by
     cases fu with
     |zero=>simpa [halvF]using a1
     |succ f=>simpa [halvF]using a1
    subst hw
    (repeat'(first|refine Ctl ?_|((with_reducible refine Kof.use hK ?_);clear hK hE K E)|((with_reducible refine W_cond (fun h=>?_) (fun h=>?_))<;>(try(exfalso;assumption)))|(((with_reducible refine G_region fun K E hK hE=>?_))<;>(try simp(disch:=omega) only[go_sem,seval, *]))))
    all_goals(refine W_ret res118 hQ ?_)
    all_goals exact⟨_,_,Wk.refl _,Fg.refl _,rfl,rfl⟩
   ·cases fu with
    |zero=>exact absurd a2 (by simpa using hk)
    |succ f=>
     have a3:halvF f (k / 2)+(w+1)=R:=by
      simp only[halvF,if_neg hk]at a1
      omega
     have a4:k / 2<2 ^ f:=by rw[Nat.pow_succ]at a2;omega
     have hwl:w+1≤62:=by omega
     have hk62:k<2 ^ 62:=Nat.lt_of_lt_of_le a2 (Nat.pow_le_pow_right (by omega) hfu)
     have hsh:=shr_div (m:=k) (w:=1) hk62 (by omega)
     have hkp:(k:Int) > 0:=by omega
     have hkp2:(0:Int)<(k:Int):=by omega
     rw[Nat.pow_one]at hsh
     have hsh:vint .shr .i64 (k:Int) 1=some (.int .i64 ((k / 2:Nat):Int)):=hsh
     have hfd:(k:Int).fdiv (2 ^ min (Int.toNat 1) IntKind.i64.bits)=((k / 2:Nat):Int):=by
      have:vint .shr .i64 (k:Int) 1=some (.int .i64 ((k:Int).fdiv (2 ^ min (Int.toNat 1) IntKind.i64.bits))):=rfl
      rw[this]at hsh
      injection hsh with hsh
      injection hsh with _ hsh
     have H2:=Lib.hid (And.intro a3 a4)
     have hk2:k / 2≤k:=Nat.div_le_self _ _
     clear a1 a2 a3 a4 HH
     generalize k / 2=kk at *
     (repeat'(first|refine Ctl ?_|((with_reducible refine Kof.use hK ?_);clear hK hE K E)|((with_reducible refine W_cond (fun h=>?_) (fun h=>?_))<;>(try(exfalso;assumption)))|(((with_reducible refine G_region fun K E hK hE=>?_))<;>(try simp(disch:=omega) only[go_sem,seval,hkp,hkp2,hsh,hfd, *]))))
     all_goals exact⟨f,by omega,kk,w+1,H2,by omega,rfl,z_sl,z_sl⟩
end Go.Proofs.YtohnaepcgnbaiaaGreatDoor
namespace Go.Proofs.YtohnaepcgnbaiaaGreatDoor
open Go.RowKit
abbrev Dm:=List UInt8×Int
def domsI (ds:List Dm):List (List VV):=ds.map fun d=>[.str d.1,.int .i64 d.2]
theorem domsI_len {ds:List Dm}:(domsI ds).length=ds.length:=by simp[domsI]
theorem domsI_at {ds:List Dm}{i:Nat}{d:Dm}(h:ds[i]?=some d):(domsI ds)[i]?=some [.str d.1,.int .i64 d.2]:=by simp[domsI,h]
def seenT (l:List (List UInt8)):List (List UInt8×Bool):=l.map fun k=>(k,true)
theorem seenT_lk {k:List UInt8}:∀{l:List (List UInt8)},(lkA k (seenT l)).getD false=decide (k∈l)
 |[]=>rfl
 |a::l=>by
  have ih:=seenT_lk (k:=k) (l:=l)
  simp only[seenT,List.map_cons,lkA]at ih ⊢
  by_cases h:k=a
  ·subst h;simp
  ·rw[if_neg h,ih]
   simp[h]
theorem seenT_pt {k:List UInt8}:∀{l:List (List UInt8)},k∉l→ptA k true (seenT l)=seenT (l++[k])
 |[],_=>rfl
 |a::l,h=>by
  have ih:=seenT_pt (k:=k) (l:=l) fun h2=>h (List.mem_cons_of_mem _ h2)
  simp only[seenT,List.map_cons,ptA,List.cons_append]at ih ⊢
  rw[if_neg (fun e=>h (by rw[e];exact List.mem_cons_self ..)),ih]
def okD (sn:List (List UInt8))(d:Dm):Bool:=((decide (1≤d.2) && decide (d.2≤1073741824)) && nameB d.1) && !decide (d.1∈sn)
def okDs:List (List UInt8)→List Dm→Bool
 |_,[]=>true
 |sn,d::r=>okD sn d && okDs (sn++[d.1]) r
def wdL (ds:List Dm):List Nat:=ds.map fun d=>widthN d.2.toNat
def wdR (ds:List Dm):List VV:=if okDs [] ds=true then [.lst (natsL (wdL ds)) .no,.int .i64 ((wdL ds).sum:Nat),.bool (decide ((wdL ds).sum≤256) && decide (ds.length≤32))] else [.lst [] .no,.int .i64 0,.bool false]
theorem Wk.tupW {xs:List (List VV)}{o:Own}{a c:VV}:Wk (.tup [.lst xs o,a,c]) (.tup [.lst xs .no,a,c]):=
 .tup rfl fun j x y hx hy=>by
  match j with
  |0=>simp at hx hy;subst hx;subst hy;exact .lst _ _
  |1=>simp at hx hy;subst hx;subst hy;exact .refl _
  |2=>simp at hx hy;subst hx;subst hy;exact .refl _
  |j+3=>simp at hx
set_option maxHeartbeats 16000000 in
theorem Lwidths_S (s:St)(ds:List Dm)(ow:Own)(hl:ds.length≤1000000)(hnl:∀d,d∈ds→d.1.length≤1000000000):SRet Tryz.prog 93 [.lst (domsI ds) ow] s (.tup (wdR ds)) s:=by
 have hat:=fun i d h=>domsI_at (ds:=ds) (i:=i) (d:=d) h
 have hln:=domsI_len (ds:=ds)
 obtain⟨R,hR⟩:∃R,wdR ds=R:=⟨_,rfl⟩
 rw[hR]
 have HR:=Lib.hid hR
 have HAT:=Lib.hid hat
 have HNL:=Lib.hid hnl
 clear hR hat hnl
 generalize domsI ds=D at *
 have hz0:seenT []=[]:=rfl
 refine G_enter Tryz.func93 rfl Tryz.ntmps93 rfl fun Q hQ hQe=>?_
 (repeat'(first|refine Ctl ?_|((with_reducible refine Kof.use hK ?_);clear hK hE K E)|((first|(with_reducible refine G_region fun K E hK hE=>?_)|((with_reducible refine W_fresh (fun b hb=>?_))))<;>(try simp(disch:=omega) only[go_sem,seval,hln, *]))))
 obtain⟨bm,hbm⟩:∃z,z=b:=⟨_,rfl⟩
 subst hbm
 have HBM:=Lib.hid hb
 refine G_loop (fun m env s'=>∃(i:Nat) (o:Own),i≤ds.length∧m+i=ds.length∧Hid (okDs [] ds=okDs ((ds.take i).map (·.1)) (ds.drop i)∧(wdL (ds.take i)).sum≤62 * i)∧OwnOk s o i∧NotOwn o bm∧s'=(s.own o 3 1 i).set bm (.map (mpV encB (seenT ((ds.take i).map (·.1)))))∧env 0=.lst D ow∧env 2=.lst (natsL (wdL (ds.take i))) o∧env 3=.int .i64 ((wdL (ds.take i)).sum:Nat)∧env 5=.mp bm∧env 11=.lst D ow∧env 12=.int .i64 ds.length∧env 13=.int .i64 i) ds.length ?_ ?_
 ·exact⟨_,Fg.refl _,0,.full,by omega,by omega,Lib.hid ⟨rfl,by simp[wdL]⟩,rfl,trivial,rfl,z_sl,z_sl,z_sl,z_sl,z_sl,z_sl,z_sl⟩
 rintro m env s' ⟨i,o,hi,hm,HN,hO,hno,rfl,e0,e2,e3,e5,e11,e12,e13⟩
 by_cases h7:i<ds.length
 ·have hk:=List.getElem?_eq_getElem h7
  have hkm:=List.getElem_mem h7
  have hdr:=List.drop_eq_getElem_cons h7
  generalize ds[i]=d at hk hkm hdr
  have hx:=HAT.out i d hk
  have hnd:=HNL.out d hkm
  obtain⟨n1,n2⟩:=HN.out
  rw[hdr]at n1
  simp only[okDs]at n1
  have htk:ds.take (i+1)=ds.take i++[d]:=by rw[List.take_add_one,hk];rfl
  have hsk:=seenT_lk (k:=d.1) (l:=(ds.take i).map (·.1))
  have wn:=fun u=>Lname_S u d.1
  have ww:=fun u=>Bwidth_S u d.2
  obtain⟨nm,sz⟩:=d
  dsimp only at *
  have hfail:okD ((ds.take i).map (·.1)) (nm,sz)=false→R=[.lst [] .no,.int .i64 0,.bool false]:=fun h=>by
   rw[← HR.out,wdR,if_neg]
   rw[n1,h]
   simp
  have hcont:okD ((ds.take i).map (·.1)) (nm,sz)=true→okDs [] ds=okDs ((ds.take (i+1)).map (·.1)) (ds.drop (i+1)):=fun h=>by
   rw[n1,h,Bool.true_and,htk,List.map_append]
   rfl
  have hfl:Fg ((s.own o 3 1 i).set bm (.map (mpV encB (seenT ((ds.take i).map (·.1)))))) s:=Fg.setA (Fg.own hO) HBM.out
  have hwl:wdL (ds.take (i+1))=wdL (ds.take i)++[widthN sz.toNat]:=by rw[htk,wdL,List.map_append];rfl
  have hpt:nm∉(ds.take i).map (·.1)→ptA nm true (seenT ((ds.take i).map (·.1)))=seenT ((ds.take (i+1)).map (·.1)):=fun h=>by
   rw[seenT_pt h,htk,List.map_append]
   rfl
  have hwb:widthN sz.toNat≤62:=halvF_le _ _
  have HWL:=Lib.hid hwl
  have HF:=Lib.hid hfail
  have HC:=Lib.hid hcont
  have HPT:=Lib.hid hpt
  have HFL:=Lib.hid hfl
  clear hk hkm hdr htk hfail hcont hfl hwl hpt n1 HN
  unfold okD at HF HC
  dsimp only at HF HC
  by_cases s1:1≤sz∧sz≤4611686018427387903
  ·simp only[if_pos s1]at ww
   by_cases s2:sz > 1073741824
   ·have hR:=HF.out (by simp;omega)
    subst hR
    (repeat'(first|refine Ctl ?_|((with_reducible refine Kof.use hK ?_);clear hK hE K E)|((with_reducible refine W_cond (fun h=>?_) (fun h=>?_))<;>(try(exfalso;assumption)))|((first|(with_reducible first|refine G_region fun K E hK hE=>?_|refine call_ret can118 (ww _) ?_)|((with_reducible refine W_fresh (fun b hb=>?_));(repeat(obtain⟨_,hb⟩:=hb))))<;>(try simp(disch:=omega) only[go_sem,seval,hx,s2, *]))))
    all_goals(refine W_ret res93 hQ ?_)
    all_goals exact⟨_,_,Wk.tupW,Fg.trans (Fg.of_set _ (by rw[St.set_other _ _ (by assumption)];exact hb)) HFL.out,rfl,rfl⟩
   ·have s2':¬ 1073741824<sz:=by omega
    by_cases s3:nameB nm=true
    ·rw[s3]at wn
     by_cases s4:nm∈(ds.take i).map (·.1)
     ·have hR:=HF.out (by rw[s3,decide_eq_true s4];simp)
      subst hR
      rw[decide_eq_true s4]at hsk
      generalize seenT ((ds.take i).map (·.1))=Sn at *
      (repeat'(first|refine Ctl ?_|((with_reducible refine Kof.use hK ?_);clear hK hE K E)|((with_reducible refine W_cond (fun h=>?_) (fun h=>?_))<;>(try(exfalso;assumption)))|((first|(with_reducible first|refine G_region fun K E hK hE=>?_|refine call_ret can118 (ww _) ?_|refine call_ret can119 (wn _) ?_)|((with_reducible refine W_fresh (fun b hb=>?_));(repeat(obtain⟨_,hb⟩:=hb))))<;>(try simp(disch:=omega) only[go_sem,seval,hx,s2,s2',hsk, *]))))
      all_goals(refine W_ret res93 hQ ?_)
      all_goals exact⟨_,_,Wk.tupW,Fg.trans (Fg.of_set _ (by rw[St.set_other _ _ (by assumption)];exact hb)) HFL.out,rfl,rfl⟩
     ·rw[decide_eq_false s4]at hsk
      have hp:=HPT.out s4
      have hc:=HC.out (by rw[s3,decide_eq_false s4,decide_eq_true s1.1,decide_eq_true (show sz≤1073741824 by omega)];rfl)
      have hsum:(wdL (ds.take (i+1))).sum=(wdL (ds.take i)).sum+widthN sz.toNat:=by rw[HWL.out,List.sum_append];simp
      have hnl2:natsL (wdL (ds.take (i+1)))=natsL (wdL (ds.take i))++[[.int .i64 (widthN sz.toNat:Int)]]:=by rw[HWL.out,natsL_add]
      have hnl3:(natsL (wdL (ds.take i))).length=i:=by
       rw[natsL_len,wdL,List.length_map,List.length_take]
       omega
      have HH:=Lib.hid (And.intro hc (And.intro hsum hnl2))
      clear hc hsum hnl2 HF HC HPT s4
      generalize hSn2:seenT ((ds.take (i+1)).map (·.1))=Sn2 at *
      have HSN:=Lib.hid hSn2
      clear hSn2
      generalize seenT ((ds.take i).map (·.1))=Sn at *
      generalize natsL (wdL (ds.take i))=NL at *
      generalize (wdL (ds.take i)).sum=W0 at *
      generalize widthN sz.toNat=wq at *
      (repeat'(first|(with_reducible refine Kp_atQ 9 ?_)|refine Ctl ?_|((with_reducible refine Kof.use hK ?_);clear hK hE K E)|((with_reducible refine W_cond (fun h=>?_) (fun h=>?_))<;>(try(exfalso;assumption)))|((first|(with_reducible first|refine G_region fun K E hK hE=>?_|refine call_ret can118 (ww _) ?_|refine call_ret can119 (wn _) ?_)|((with_reducible refine W_fresh (fun b hb=>?_));(repeat(obtain⟨_,hb⟩:=hb))))<;>(try simp(disch:=first|assumption|omega) only[go_sem,seval,hx,s2,s2',hsk,hp, *]))))
      unfold StopQ
      refine Kp_forget (s':=(s.own o 3 1 i).set bm (.map (mpV encB Sn2))) (Fg.of_set _ (by rw[St.set_other _ _ (by assumption)];exact hb)) ?_
      (repeat'(first|refine Ctl ?_|((with_reducible refine Kof.use hK ?_);clear hK hE K E)|((first|(with_reducible refine G_region fun K E hK hE=>?_)|((with_reducible refine W_app (fun o2 ho=>?_));(try simp(disch:=assumption) only[disown_set,disown_own,ownok_o,ownok_m,List.length_map,List.length_cons,List.length_nil,Nat.zero_add,hnl3]at ho);(repeat(obtain⟨_,ho⟩:=ho))))<;>(try simp(disch:=first|assumption|omega) only[go_sem,seval,hnl3, *]))))
      all_goals exact⟨_,Fg.refl _,m - 1,by omega,i+1,o2,by omega,by omega,Lib.hid ⟨HH.out.1,by rw[HH.out.2.1];omega⟩,ho,by assumption,by rw[HSN.out],z_sl,by(rw[HH.out.2.2];((try simp(disch:=assumption) only[go_sem,seval, *])<;>rfl)),by(rw[HH.out.2.1];((try simp(disch:=assumption) only[go_sem,seval, *])<;>rfl)),z_sl,z_sl,z_sl,z_sl⟩
    ·have s3':nameB nm=false:=by simpa using s3
     rw[s3']at wn
     have hR:=HF.out (by simp[s3'])
     subst hR
     (repeat'(first|refine Ctl ?_|((with_reducible refine Kof.use hK ?_);clear hK hE K E)|((with_reducible refine W_cond (fun h=>?_) (fun h=>?_))<;>(try(exfalso;assumption)))|((first|(with_reducible first|refine G_region fun K E hK hE=>?_|refine call_ret can118 (ww _) ?_|refine call_ret can119 (wn _) ?_)|((with_reducible refine W_fresh (fun b hb=>?_));(repeat(obtain⟨_,hb⟩:=hb))))<;>(try simp(disch:=omega) only[go_sem,seval,hx,s2,s2', *]))))
     all_goals(refine W_ret res93 hQ ?_)
     all_goals exact⟨_,_,Wk.tupW,Fg.trans (Fg.of_set _ (by rw[St.set_other _ _ (by assumption)];exact hb)) HFL.out,rfl,rfl⟩
  ·simp only[if_neg s1]at ww
   have hR:=HF.out (by simp;omega)
   subst hR
   (repeat'(first|refine Ctl ?_|((with_reducible refine Kof.use hK ?_);clear hK hE K E)|((with_reducible refine W_cond (fun h=>?_) (fun h=>?_))<;>(try(exfalso;assumption)))|((first|(with_reducible first|refine G_region fun K E hK hE=>?_|refine call_ret can118 (ww _) ?_)|((with_reducible refine W_fresh (fun b hb=>?_));(repeat(obtain⟨_,hb⟩:=hb))))<;>(try simp(disch:=omega) only[go_sem,seval,hx, *]))))
   all_goals(refine W_ret res93 hQ ?_)
   all_goals exact⟨_,_,Wk.tupW,Fg.trans (Fg.of_set _ (by rw[St.set_other _ _ (by assumption)];exact hb)) HFL.out,rfl,rfl⟩
 ·have hie:i=ds.length:=by omega
  subst hie
  have ht:ds.take ds.length=ds:=List.take_length
  have hd:ds.drop ds.length=[]:=List.drop_length
  obtain⟨n1,n2⟩:=HN.out
  rw[ht,hd]at n1
  rw[ht]at n2 e2 e3 ⊢
  simp only[okDs]at n1
  have hR:R=[.lst (natsL (wdL ds)) .no,.int .i64 ((wdL ds).sum:Nat),.bool (decide ((wdL ds).sum≤256) && decide (ds.length≤32))]:=by rw[← HR.out,wdR,if_pos n1]
  have HRR:=Lib.hid hR
  clear hR HR
  have hfl:Fg ((s.own o 3 1 ds.length).set bm (.map (mpV encB (seenT (ds.map (·.1)))))) s:=Fg.setA (Fg.own hO) HBM.out
  have HFL:=Lib.hid hfl
  clear ht hd n1 hfl HN
  generalize natsL (wdL ds)=NL at *
  generalize (wdL ds).sum=W0 at *
  by_cases s1:W0≤256
  ·have s1':(W0:Int)≤256:=by omega
   by_cases s2:ds.length≤32
   ·have s2':(ds.length:Int)≤32:=by omega
    (repeat'(first|refine Ctl ?_|((with_reducible refine Kof.use hK ?_);clear hK hE K E)|((with_reducible refine W_cond (fun h=>?_) (fun h=>?_))<;>(try(exfalso;assumption)))|(((with_reducible refine G_region fun K E hK hE=>?_))<;>(try simp(disch:=omega) only[go_sem,seval,s1',s2',hln, *]))))
    all_goals(refine W_ret res93 hQ ?_)
    all_goals(rw[HRR.out,decide_eq_true s1,decide_eq_true s2];exact⟨_,_,Wk.tupW,HFL.out,rfl,rfl⟩)
   ·have s2':¬ (ds.length:Int)≤32:=by omega
    (repeat'(first|refine Ctl ?_|((with_reducible refine Kof.use hK ?_);clear hK hE K E)|((with_reducible refine W_cond (fun h=>?_) (fun h=>?_))<;>(try(exfalso;assumption)))|(((with_reducible refine G_region fun K E hK hE=>?_))<;>(try simp(disch:=omega) only[go_sem,seval,s1',s2',hln, *]))))
    all_goals(refine W_ret res93 hQ ?_)
    all_goals(rw[HRR.out,decide_eq_true s1,decide_eq_false s2];exact⟨_,_,Wk.tupW,HFL.out,rfl,rfl⟩)
  ·have s1':¬ (W0:Int)≤256:=by omega
   (repeat'(first|refine Ctl ?_|((with_reducible refine Kof.use hK ?_);clear hK hE K E)|((with_reducible refine W_cond (fun h=>?_) (fun h=>?_))<;>(try(exfalso;assumption)))|(((with_reducible refine G_region fun K E hK hE=>?_))<;>(try simp(disch:=omega) only[go_sem,seval,s1',hln, *]))))
   all_goals(refine W_ret res93 hQ ?_)
   all_goals(rw[HRR.out,decide_eq_false s1,Bool.false_and];exact⟨_,_,Wk.tupW,HFL.out,rfl,rfl⟩)
def mayDs (ds:List Dm):Bool:=okDs [] ds && (decide ((wdL ds).sum≤256) && decide (ds.length≤32))
set_option maxHeartbeats 2000000 in
theorem Lcheck_S (s:St)(ds:List Dm)(ow:Own)(hl:ds.length≤1000000)(hnl:∀d,d∈ds→d.1.length≤1000000000):SRet Tryz.prog 58 [.lst (domsI ds) ow] s (.int .i64 (if mayDs ds=true then 0 else 1)) s:=by
 have w1:=Lwidths_S s ds ow hl hnl
 unfold wdR at w1
 unfold mayDs
 generalize domsI ds=D at *
 cases h1:okDs [] ds
 ·rw[h1]at w1
  simp only[Bool.false_eq_true,if_false]at w1
  simp only[Bool.false_and,Bool.false_eq_true,if_false]
  refine G_enter Tryz.func58 rfl Tryz.ntmps58 rfl fun Q hQ hQe=>?_
  (repeat'(first|refine Ctl ?_|((with_reducible refine Kof.use hK ?_);clear hK hE K E)|((with_reducible refine W_cond (fun h=>?_) (fun h=>?_))<;>(try(exfalso;assumption)))|(((with_reducible first|refine G_region fun K E hK hE=>?_|refine call_ret can93 (w1) ?_))<;>(try simp(disch:=omega) only[go_sem,seval, *]))))
  all_goals(refine W_ret res58 hQ ?_)
  all_goals exact⟨_,_,Wk.refl _,Fg.refl _,rfl,rfl⟩
 ·rw[h1]at w1
  simp only[if_true]at w1
  rw[Bool.true_and]
  generalize natsL (wdL ds)=NL at *
  generalize (decide ((wdL ds).sum≤256) && decide (ds.length≤32))=B at *
  generalize (wdL ds).sum=W0 at *
  cases B
  ·simp only[Bool.false_eq_true,if_false]
   refine G_enter Tryz.func58 rfl Tryz.ntmps58 rfl fun Q hQ hQe=>?_
   (repeat'(first|refine Ctl ?_|((with_reducible refine Kof.use hK ?_);clear hK hE K E)|((with_reducible refine W_cond (fun h=>?_) (fun h=>?_))<;>(try(exfalso;assumption)))|(((with_reducible first|refine G_region fun K E hK hE=>?_|refine call_ret can93 (w1) ?_))<;>(try simp(disch:=omega) only[go_sem,seval, *]))))
   all_goals(refine W_ret res58 hQ ?_)
   all_goals exact⟨_,_,Wk.refl _,Fg.refl _,rfl,rfl⟩
  ·simp only[if_true]
   refine G_enter Tryz.func58 rfl Tryz.ntmps58 rfl fun Q hQ hQe=>?_
   (repeat'(first|refine Ctl ?_|((with_reducible refine Kof.use hK ?_);clear hK hE K E)|((with_reducible refine W_cond (fun h=>?_) (fun h=>?_))<;>(try(exfalso;assumption)))|(((with_reducible first|refine G_region fun K E hK hE=>?_|refine call_ret can93 (w1) ?_))<;>(try simp(disch:=omega) only[go_sem,seval, *]))))
   all_goals(refine W_ret res58 hQ ?_)
   all_goals exact⟨_,_,Wk.refl _,Fg.refl _,rfl,rfl⟩
set_option maxHeartbeats 2000000 in
theorem Lbits_S (s:St)(ds:List Dm)(ow:Own)(hl:ds.length≤1000000)(hnl:∀d,d∈ds→d.1.length≤1000000000):SRet Tryz.prog 59 [.lst (domsI ds) ow] s (.int .i64 (if mayDs ds=true then((wdL ds).sum:Nat)else 0)) s:=by
 have w1:=Lwidths_S s ds ow hl hnl
 unfold wdR at w1
 unfold mayDs
 generalize domsI ds=D at *
 cases h1:okDs [] ds
 ·rw[h1]at w1
  simp only[Bool.false_eq_true,if_false]at w1
  simp only[Bool.false_and,Bool.false_eq_true,if_false]
  refine G_enter Tryz.func59 rfl Tryz.ntmps59 rfl fun Q hQ hQe=>?_
  (repeat'(first|refine Ctl ?_|((with_reducible refine Kof.use hK ?_);clear hK hE K E)|((with_reducible refine W_cond (fun h=>?_) (fun h=>?_))<;>(try(exfalso;assumption)))|(((with_reducible first|refine G_region fun K E hK hE=>?_|refine call_ret can93 (w1) ?_))<;>(try simp(disch:=omega) only[go_sem,seval, *]))))
  all_goals(refine W_ret res59 hQ ?_)
  all_goals exact⟨_,_,Wk.refl _,Fg.refl _,rfl,rfl⟩
 ·rw[h1]at w1
  simp only[if_true]at w1
  rw[Bool.true_and]
  generalize natsL (wdL ds)=NL at *
  generalize (decide ((wdL ds).sum≤256) && decide (ds.length≤32))=B at *
  generalize (wdL ds).sum=W0 at *
  cases B
  ·simp only[Bool.false_eq_true,if_false]
   refine G_enter Tryz.func59 rfl Tryz.ntmps59 rfl fun Q hQ hQe=>?_
   (repeat'(first|refine Ctl ?_|((with_reducible refine Kof.use hK ?_);clear hK hE K E)|((with_reducible refine W_cond (fun h=>?_) (fun h=>?_))<;>(try(exfalso;assumption)))|(((with_reducible first|refine G_region fun K E hK hE=>?_|refine call_ret can93 (w1) ?_))<;>(try simp(disch:=omega) only[go_sem,seval, *]))))
   all_goals(refine W_ret res59 hQ ?_)
   all_goals exact⟨_,_,Wk.refl _,Fg.refl _,rfl,rfl⟩
  ·simp only[if_true]
   refine G_enter Tryz.func59 rfl Tryz.ntmps59 rfl fun Q hQ hQe=>?_
   (repeat'(first|refine Ctl ?_|((with_reducible refine Kof.use hK ?_);clear hK hE K E)|((with_reducible refine W_cond (fun h=>?_) (fun h=>?_))<;>(try(exfalso;assumption)))|(((with_reducible first|refine G_region fun K E hK hE=>?_|refine call_ret can93 (w1) ?_))<;>(try simp(disch:=omega) only[go_sem,seval, *]))))
   all_goals(refine W_ret res59 hQ ?_)
   all_goals exact⟨_,_,Wk.refl _,Fg.refl _,rfl,rfl⟩
open Go.RowKit Go.Sort
def splitC (c:UInt8):List UInt8→List (List UInt8)
 |[]=>[[]]
 |b::l=>if b=c then []::splitC c l else match splitC c l with
  |[]=>[[b]]
  |p::r=>(b::p)::r
theorem index_cons (b c:UInt8)(l:List UInt8)(h:b≠c):Lib.index (b::l) [c]=if Lib.index l [c] == -1 then -1 else Lib.index l [c]+1:=by
 have hp:([c]:List UInt8).isPrefixOf (b::l)=false:=by simp[List.isPrefixOf,Ne.symm h]
 rw[Lib.index,hp];simp
theorem splitK_ne (b c:UInt8)(h:b≠c):∀(k:Nat) (l:List UInt8),∃p r,Lib.splitK [c] 0 k l=p::r∧Lib.splitK [c] 0 k (b::l)=(b::p)::r
 |0,l=>⟨l,[],rfl,rfl⟩
 |k+1,l=>by
  have hix:=index_cons b c l h
  by_cases hm:Lib.index l [c]=-1
  ·refine⟨l,[],?_,?_⟩
   ·unfold Lib.splitK;rw[if_pos (beq_iff_eq.2 hm)]
   ·unfold Lib.splitK;rw[if_pos];rw[hix,if_pos (beq_iff_eq.2 hm)];rfl
  ·have hge:=Lib.index_ge l [c]
   obtain⟨j,hj⟩:∃j:Nat,Lib.index l [c]=j:=⟨(Lib.index l [c]).toNat,by omega⟩
   have hix':Lib.index (b::l) [c]=((j+1:Nat):Int):=by rw[hix,if_neg (fun e=>hm (beq_iff_eq.1 e)),hj];omega
   have n1:¬ (Lib.index l [c] == -1)=true:=fun e=>hm (beq_iff_eq.1 e)
   have n2:¬ (Lib.index (b::l) [c] == -1)=true:=fun e=>by have:=beq_iff_eq.1 e;omega
   refine⟨l.take j,Lib.splitK [c] 0 k (l.drop (j+1)),?_,?_⟩
   ·rw[Lib.splitK,if_neg n1,hj];rfl
   ·rw[Lib.splitK,if_neg n2,hix']
    rfl
theorem split_one (c:UInt8):∀s:List UInt8,Lib.split s [c]=splitC c s
 |[]=>by
  have:Lib.count [] [c]=0:=by rw[Lib.count_one];rfl
  rw[Lib.split,this];rfl
 |b::l=>by
  have ih:=split_one c l
  unfold Lib.split at ih ⊢
  by_cases h:b=c
  ·subst h
   have hix:Lib.index (b::l) [b]=0:=by rw[Lib.index];simp[List.isPrefixOf]
   rw[Lib.count_cons_eq,Nat.add_comm,Lib.splitK,if_neg (by rw[hix];decide),hix]
   simp only[splitC,if_true]
   rw[← ih]
   rfl
  ·rw[Lib.count_cons_ne b c l h]
   obtain⟨p,r,h1,h2⟩:=splitK_ne b c h (Lib.count l [c]) l
   rw[h2]
   simp only[splitC,if_neg h]
   rw[← ih,h1]
theorem splitC_len (c:UInt8):∀s:List UInt8,(splitC c s).length≤s.length+1
 |[]=>Nat.le_refl _
 |b::l=>by
  have ih:=splitC_len c l
  simp only[splitC]
  split
  ·simp;omega
  ·split
   ·simp
   ·rename_i h;rw[h]at ih;simp at ih ⊢;omega
theorem Split_S (s:St)(l:List UInt8)(c:UInt8)(hl:l.length<4294967281):SRet Tryz.prog 94 [.str l,.str [c]] s (.lst (strs (splitC c l)) .no) s:=by
 intro w0 G w vs hS hA
 obtain⟨v1,v2,rfl,r1,r2⟩:=RL_two hA
 obtain⟨a,ha,rfl⟩:∃a:Array UInt8,a.toList=l∧v1=.string ⟨a⟩:=by cases r1;exact⟨_,rfl,rfl⟩
 obtain⟨sep,hsep,rfl⟩:∃a:Array UInt8,a.toList=[c]∧v2=.string ⟨a⟩:=by
  obtain⟨q,hq⟩:∃q,q=[c]:=⟨_,rfl⟩
  rw[← hq]at r2
  cases r2
  exact⟨_,hq,rfl⟩
 obtain⟨m,hm⟩:=hS.gl
 have hlt:0<w0.heap.size:=World.block_lt_of_cell? _ _ hm
 have hm':w.cell? ⟨0,0,none⟩=some (.int .i64 m):=(hS.below.cell (p:=⟨0,0,none⟩) hlt).trans hm
 have hsz:(⟨a⟩:ByteArray).size<4294967281:=by
  have:(⟨a⟩:ByteArray).size=a.toList.length:=by rw[Array.length_toList];rfl
  rw[this,ha];exact hl
 have hs1:1≤(⟨sep⟩:ByteArray).size:=by
  have:(⟨sep⟩:ByteArray).size=sep.toList.length:=by rw[Array.length_toList];rfl
  rw[this,hsep];simp
 refine(Tryz.strings_Split ⟨a⟩ ⟨sep⟩ m w hsz hm' hs1).mono ?_
 rintro e w' ⟨rfl,rfl⟩
 obtain⟨PB,hPB⟩:∃PB,PB=Lib.splitB ⟨sep⟩ 0 (Lib.countB ⟨a⟩ ⟨sep⟩) ⟨a⟩:=⟨_,rfl⟩
 have hlen:PB.length=Lib.countB ⟨a⟩ ⟨sep⟩+1:=by rw[hPB];exact Lib.splitB_all _ hs1 0 _ _ rfl
 have hdat:PB.map (·.data.toList)=splitC c l:=by
  rw[hPB,Lib.splitB_data,← split_one]
  show Lib.splitK sep.toList 0 (Lib.count a.toList sep.toList) a.toList=_
  rw[hsep,ha];rfl
 rw[← hPB,← hlen]
 have hSn:Below w.heap.size w (w.alloc (.cells (PB.map Value.string).toArray 9)):=(Below.refl _ w).alloc (Nat.le_refl _) _
 obtain⟨G',g1,g2,g3⟩:=hS.know hSn w.heap.size (Nat.le_refl _) (fun i=>(PB[i]?).map Value.string) fun i v hv=>by
  simp only[World.cell?,heap_alloc_new]
  simpa using hv
 refine⟨G',s,.ret (.lst (strs (splitC c l)) .no),g1,g2,?_,rfl,rfl⟩
 refine .lst w.heap.size 0 PB.length PB.length 1 (strs (splitC c l)) .no (fun i _=>.string ((PB[i]?).getD ⟨#[]⟩)) (by rw[← hdat];simp[strs]) (Nat.le_refl _) ?_ ?_ ?_ ?_ (.inl rfl)
 ·intro x hx
  obtain⟨y,_,rfl⟩:=List.mem_map.1 hx
  rfl
 ·intro x hx y hy
  obtain⟨z,_,rfl⟩:=List.mem_map.1 hx
  rw[List.mem_singleton]at hy
  subst hy
  rfl
 ·intro i j hi hj
  have:j=0:=by omega
  subst this
  have:=g3 i (.string PB[i]) (by rw[List.getElem?_eq_getElem hi];rfl)
  rw[List.getElem?_eq_getElem hi]
  simpa using this
 ·intro i j x y hx hy
  simp only[strs,← hdat,List.map_map,List.getElem?_map]at hx
  obtain⟨z,hz,rfl⟩:=Option.map_eq_some_iff.1 hx
  have hj:j=0:=by
   have:=(List.getElem?_eq_some_iff.1 hy).1
   simp at this;exact this
  subst hj
  simp at hy
  subst hy
  rw[hz]
  obtain⟨b⟩:=z
  exact .str b
theorem Irev_S (s:St)(g:Nat)(T:TypeId)(zs:List Int)(hn:zs.length≤100000000)(hs:s g=.row T 1 (ints zs)) :
  SRet Tryz.prog 97 [.mrw g zs.length] s (.tup []) (s.set g (.row T 1 (ints zs.reverse))):=by
 intro w0 G w vs hS hA
 obtain⟨v1,rfl,r1⟩:=RL_one hA
 cases r1 with
 |mrw _ _ cap sz hq hc=>
 have hok:=hS.ok g
 rw[hs]at hok
 obtain⟨hB,hnK,c,cap',hh,hq',hcs,hl,hm,hx⟩:=hok
 have hil:(ints zs).length=zs.length:=by simp[ints]
 rw[hil]at hl
 have hblk:g<w.heap.size:=hS.lt (by rw[hs];simp)
 have hcell:∀(i:Nat) (z:Int),zs[i]?=some z→c[i]?=some (.int .i64 z):=fun i z hz=>by
  obtain⟨_,v,h1,h2⟩:=hx i (.int .i64 z) (by simp[ints,hz])
  cases h2
  exact h1
 have hH:Holds (Value.int .i64) w g 0 zs.toArray:=fun j hj=>by
  rw[List.size_toArray]at hj
  have h1:=hcell j _ (List.getElem?_eq_getElem hj)
  constructor
  ·rw[getElem!_pos _ j (by simpa using hj)]
   simp only[World.cell?,Nat.zero_add,hh]
   simpa using h1
  ·simp[World.frozen?,hh]
 refine(Tryz.slices_Reverse_int g 0 cap zs w hH (by omega)).mono ?_
 rintro e w' ⟨rfl,n,rfl⟩
 have hS1:Sim w0 G (Sort.ahead w n) s:=hS.world ⟨rfl,rfl,rfl,Nat.le_refl _,fun _ _=>rfl⟩
 obtain⟨d',hd'⟩:∃d',d'=zs.reverse.toArray:=⟨_,rfl⟩
 have hdl:d'.size=zs.length:=by rw[hd',List.size_toArray,List.length_reverse]
 rw[← hd']
 have hmod:∀k,(Sort.putRow (Value.int .i64) (Sort.ahead w n) g 0 d').heap[k]?=if g=k then(w.heap[k]?).map (onCells (putCells (Value.int .i64) 0 d'))else w.heap[k]?:=fun k=>Array.getElem?_modify ..
 have hS2:=hS1.set_row hs (Sort.putRow (Value.int .i64) (Sort.ahead w n) g 0 d') c (putCells (Value.int .i64) 0 d' c) (ys:=ints zs.reverse) hh
  ⟨rfl,rfl,rfl,by simp[Sort.putRow,mapBlock],fun k hk=>by rw[hmod,if_neg (by omega)];rfl⟩ (by simp[Sort.putRow,mapBlock]) (by rw[hmod,if_pos rfl,hh];rfl) (fun k hk=>by rw[hmod,if_neg (Ne.symm hk)];rfl)
  (by simp[putCells]) (by simp only[ints,List.length_map,List.length_reverse];rw[hcs];exact hl) (fun i x hi=>by
   simp only[ints,List.getElem?_map]at hi
   obtain⟨k,hk,rfl⟩:=Option.map_eq_some_iff.1 hi
   have hil:=(List.getElem?_eq_some_iff.1 hk).1
   rw[List.length_reverse]at hil
   refine⟨rfl,.int .i64 k,?_,.int _ _⟩
   have hid:i<d'.size:=by omega
   have hdk:d'[i]=k:=by
    have h3:d'.toList[i]?=some k:=by rw[hd'];exact hk
    rw[Array.getElem?_toList,Array.getElem?_eq_getElem hid]at h3
    injection h3
   have hic:i<c.size:=by rw[hcs];omega
   simp only[putCells,Array.getElem?_mapIdx,Array.getElem?_eq_getElem hic,Option.map_some,Nat.zero_le,Nat.zero_add,true_and,hid,if_true,Nat.sub_zero]
   rw[getElem!_pos d' i hid,hdk])
 refine⟨G,_,.ret (.tup []),Gh.le.refl G,hS2,.tup #[] [] rfl (fun j v y h=>by simp at h),rfl,rfl⟩
theorem Irev0_S (s:St):SRet Tryz.prog 97 [.raw (.slice none 0 0)] s (.tup []) s:=by
 intro w0 G w vs hS hA
 obtain⟨v1,rfl,r1⟩:=RL_one hA
 cases r1 with
 |raw=>
 refine(Tryz.slices_Reverse_int_empty none 0 w).mono ?_
 rintro e w' ⟨rfl,rfl⟩
 exact⟨G,s,.ret (.tup []),Gh.le.refl G,hS,R.tup #[] [] rfl (fun j v y h=>by simp at h),rfl,rfl⟩
def ixD (nm:List UInt8):List Dm→Nat→Int
 |[],_=>-1
 |d::r,i=>if d.1=nm then(i:Int)else ixD nm r (i+1)
set_option maxHeartbeats 1000000 in
theorem Lpl1_S (s:St)(sb:Nat)(nm x:List UInt8)(sz:Int)(hs:s sb=.obj 9 [.str x]):SRet Tryz.prog 96 [.agg [.str nm,.int .i64 sz],.ptr sb 0] s (.bool (decide (nm=x))) s:=by
 have hf:s sb≠.free:=by rw[hs];simp
 refine G_enter Tryz.func96 rfl Tryz.ntmps96 rfl fun Q hQ hQe=>?_
 (repeat'(first|refine Ctl ?_|((with_reducible refine Kof.use hK ?_);clear hK hE K E)|((first|(with_reducible refine G_region fun K E hK hE=>?_)|((with_reducible refine W_fresh (fun b hb=>?_));(try(obtain⟨_,_⟩:=nef hb hf))))<;>(try simp(disch:=omega) only[go_sem,seval, *]))))
 all_goals(refine W_ret res96 hQ ?_)
 exact⟨_,_,Wk.refl _,Fg.of_set _ hb,rfl,rfl⟩
set_option maxHeartbeats 4000000 in
theorem LixF_S (s:St)(sb:Nat)(x:List UInt8)(ds:List Dm)(ow:Own)(hl:ds.length≤1000000)(hs:s sb=.obj 9 [.str x]) :
  SRet Tryz.prog 95 [.lst (domsI ds) ow,.fn 96 [.ptr sb 0]] s (.int .i64 (ixD x ds 0)) s:=by
 have w1:=fun nm sz=>Lpl1_S s sb nm x sz hs
 have hln:=domsI_len (ds:=ds)
 have hat:=fun i d h=>domsI_at (ds:=ds) (i:=i) (d:=d) h
 have HA:=Lib.hid hat
 clear hat hs
 obtain⟨R,hR⟩:∃R,ixD x ds 0=R:=⟨_,rfl⟩
 rw[hR]
 have h0:Hid (ixD x (ds.drop 0) 0=R):=Lib.hid (by rw[List.drop_zero];exact hR)
 clear hR
 generalize domsI ds=L at *
 refine G_enter Tryz.func95 rfl Tryz.ntmps95 rfl fun Q hQ hQe=>?_
 (repeat'(first|refine Ctl ?_|((with_reducible refine Kof.use hK ?_);clear hK hE K E)|(((with_reducible refine G_region fun K E hK hE=>?_))<;>(try simp(disch:=omega) only[go_sem,seval,hln, *]))))
 refine L_loop (fun m env s'=>∃(i:Nat),i≤ds.length∧m+i=ds.length∧Hid (ixD x (ds.drop i) i=R)∧s'=s∧env 0=.lst L ow∧env 1=.fn 96 [.ptr sb 0]∧env 7=.int .i64 ds.length∧env 8=.int .i64 i) ds.length
  ⟨0,by omega,by omega,h0,rfl,z_sl,z_sl,z_sl,z_sl⟩ ?_
 rintro m env s' ⟨i,hi,hm,HR,rfl,e0,e1,e7,e8⟩
 by_cases h2:i<ds.length
 ·have hx:=HA.out i _ (List.getElem?_eq_getElem h2)
  have hd:=List.drop_eq_getElem_cons h2
  have hr:=HR.out
  rw[hd]at hr
  simp only[ixD]at hr
  generalize ds[i]=d at *
  obtain⟨nm,sz⟩:=d
  dsimp only at hx hr
  have w2:=w1 nm sz
  by_cases e:nm=x
  ·rw[if_pos e]at hr
   rw[decide_eq_true e]at w2
   have HRR:=Lib.hid hr
   clear hr hd e w1 HR
   (repeat'(first|refine Ctl ?_|((with_reducible refine Kof.use hK ?_);clear hK hE K E)|((with_reducible refine W_cond (fun h=>?_) (fun h=>?_))<;>(try(exfalso;assumption)))|(((with_reducible first|refine G_region fun K E hK hE=>?_|refine call_ret can96 (w2) ?_))<;>(try simp(disch:=omega) only[go_sem,seval,hx, *]))))
   all_goals(refine W_ret res95 hQ ?_)
   all_goals(rw[← HRR.out];exact⟨_,_,Wk.refl _,Fg.refl _,rfl,rfl⟩)
  ·rw[if_neg e]at hr
   rw[decide_eq_false e]at w2
   have HRR:=Lib.hid hr
   clear hr hd e w1 HR
   (repeat'(first|refine Ctl ?_|((with_reducible refine Kof.use hK ?_);clear hK hE K E)|((with_reducible refine W_cond (fun h=>?_) (fun h=>?_))<;>(try(exfalso;assumption)))|(((with_reducible first|refine G_region fun K E hK hE=>?_|refine call_ret can96 (w2) ?_))<;>(try simp(disch:=omega) only[go_sem,seval,hx, *]))))
   all_goals exact⟨m - 1,by omega,i+1,by omega,by omega,HRR,rfl,z_sl,z_sl,z_sl,z_sl⟩
 ·have hr:=HR.out
  rw[List.drop_of_length_le (by omega)]at hr
  simp only[ixD]at hr
  have HRR:=Lib.hid hr
  clear hr HR
  (repeat'(first|refine Ctl ?_|((with_reducible refine Kof.use hK ?_);clear hK hE K E)|((with_reducible refine W_cond (fun h=>?_) (fun h=>?_))<;>(try(exfalso;assumption)))|(((with_reducible refine G_region fun K E hK hE=>?_))<;>(try simp(disch:=omega) only[go_sem,seval, *]))))
  all_goals(refine W_ret res95 hQ ?_)
  all_goals(rw[← HRR.out];exact⟨_,_,Wk.refl _,Fg.refl _,rfl,rfl⟩)
end Go.Proofs.YtohnaepcgnbaiaaGreatDoor
