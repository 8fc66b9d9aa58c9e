/- Walks of functions that the claim reaches, and plain facts of them. Conditions: those in the statements. -/
import Derived.Test.YteldpmgepfaiiaaGreatDoorQrZij
import Derived.Test.YteldpmgepfaiiaaGreatDoorQrRunj
set_option linter.unusedSimpArgs false
set_option linter.unusedVariables false
set_option maxRecDepth 100000
namespace Go.Proofs.YteldpmgepfaiiaaGreatDoor
open Go.RowKit
attribute [local go_sem] aN aX cG
set_option maxHeartbeats 4000000 in
theorem Dc (l:List (List Int))(r:List Int)(o1 o2:Own)(hl:iU l)(hr:r.length<=1000000000)(t:St):SRet Tryz.prog 16 [.lst (aD l) o1,.lst (ay r) o2] t (.bool (decide (r∈l))) t:=by
 have hl1:(aD l).length=l.length:=cL
 obtain⟨ha1,ha2⟩:=hl
 generalize hR:decide (r∈l)=R
 have HR:=u_ hR
 clear hR
 refine bh Tryz.func16 rfl Tryz.ntmps16 rfl fun Q hQ hQe=>?_
 (repeat'(first|refine Ctl ?_|((with_reducible refine j_ hK ?_);clear hK hE K E)|(((with_reducible refine ae fun K E hK hE=>?_))<;>(try simp(disch:=omega) only[go_sem,seval, *]))))
 refine bi (fun m env s'=>∃(i:Nat),i<=l.length/\m+i=l.length/\Hid (r∉l.take i)/\s'=t/\env 0=.lst (aD l) o1/\env 1=.lst (ay r) o2/\env 5=.int .i64 i) l.length
  ⟨0,by omega,by omega,u_ (by simp),rfl,ab,ab,ab⟩ ?_
 rintro m env s' ⟨i,hi,hm,HH,rfl,e0,e1,e5⟩
 by_cases h2:i<l.length
 ·obtain⟨x,hx⟩:∃x,l[i]?=some x:=⟨_,b_ (by omega)⟩
  have sx:=dP hx
  have hxm:=p_ hx
  have w1:=fun s=>jQ x r .no o2 (by have:=ha2 x hxm;omega) (by omega) s
  have t1:l.take (i+1)=l.take i++[x]:=by rw[List.take_add_one,hx];rfl
  have HT:¬ x=r->r∉l.take (i+1):=fun e=>by
   rw[t1,l_,e_]
   rintro(h|h)
   ·exact HH.out h
   ·exact e h.symm
  clear t1 hx
  by_cases e:x=r
  ·have hR:R=true:=by rw[<- HR.out];subst e;simp[hxm]
   subst hR
   rw[show decide (x=r)=true by simp[e]]at w1
   clear HT e hxm
   (repeat'(first|refine Ctl ?_|((with_reducible refine j_ hK ?_);clear hK hE K E)|((with_reducible refine aj (fun h=>?_) (fun h=>?_))<;>(try(exfalso;assumption)))|(((with_reducible first|refine ae fun K E hK hE=>?_|refine ak py (w1 _) ?_))<;>(try simp(disch:=omega) only[go_sem,seval, *]))))
   all_goals(refine ap I3 hQ ?_)
   all_goals(refine⟨_,_,Wk.of_eq ?_,?_,rfl,rfl⟩)
   all_goals first|rfl|(exact bj)
  ·have HT2:=u_ (HT e)
   rw[show decide (x=r)=false by simp[e]]at w1
   clear HT e hxm
   (repeat'(first|refine Ctl ?_|((with_reducible refine j_ hK ?_);clear hK hE K E)|((with_reducible refine aj (fun h=>?_) (fun h=>?_))<;>(try(exfalso;assumption)))|(((with_reducible first|refine ae fun K E hK hE=>?_|refine ak py (w1 _) ?_))<;>(try simp(disch:=omega) only[go_sem,seval, *]))))
   all_goals exact⟨m - 1,by omega,i+1,by omega,by omega,HT2,rfl,ab,ab,ab⟩
 ·have hR:R=false:=by
   have h3:=HH.out
   rw[B_ (by omega)]at h3
   rw[<- HR.out];simp[h3]
  subst hR
  (repeat'(first|refine Ctl ?_|((with_reducible refine j_ hK ?_);clear hK hE K E)|((with_reducible refine aj (fun h=>?_) (fun h=>?_))<;>(try(exfalso;assumption)))|(((with_reducible refine ae fun K E hK hE=>?_))<;>(try simp(disch:=omega) only[go_sem,seval, *]))))
  all_goals(refine ap I3 hQ ?_)
  all_goals(refine⟨_,_,Wk.of_eq ?_,?_,rfl,rfl⟩)
  all_goals first|rfl|(exact bj)
theorem L8 {x:Pgm}{L:List Tbl}{e:Int}(hds:∀d,d∈x.doms->d.size<=256)(h:cP x [] L e):L.length<=1000000/\∀y,y∈L->iU y.rs:=by
 unfold cP at h
 split at h
 ·rw[h.1];exact⟨by simp,fun y hy=>by cases hy⟩
 ·split at h
  ·rw[h.1];exact⟨by simp,fun y hy=>by cases hy⟩
  ·rename_i h1 h2
   rcases h with ⟨_,h⟩|⟨_,h,_⟩
   ·exact Al (g:=[]) (e:=0) hds (fun t ht=>by cases ht) (by unfold en;rw[if_neg h1,if_neg h2];exact⟨rfl,h⟩)
   ·rw[h];exact⟨by simp,fun y hy=>by cases hy⟩
theorem Mg {x:Pgm}(hx:PgmOk x)(hds:∀d,d∈x.doms->d.size<=256)(o1 o2 o3 oL:Own)(t:St) :
  SCalls Tryz.prog 14 [.agg [.lst (x.doms.map dmC) o1,.lst (x.decls.map aB) o2,.lst (x.rules.map az) o3],.lst [] oL] t fun w u=>∃q:List Tbl×Int,w=.ret (.tup [.lst (q.1.map aZ) .no,.int .i64 q.2])/\u=t/\cP x [] q.1 q.2:=
 SCalls.wk (wD x [] oL hx hds (by simp) (fun t ht=>by cases ht) t) rfl fun j a b ha hb=>by
  match j with
  |0=>simp at ha hb;subst ha;subst hb;exact Wk.agg (.lst _ _ (.lst _ _ (.lst _ _ .nil)))
  |1=>simp at ha hb;subst ha;subst hb;exact Wk.refl _
  |j+2=>simp at ha
theorem Mj (x:Pgm)(hx:PgmOk x)(hno:¬ (Im x/\Ih x)):(∀s,SRet Tryz.prog 9 [.agg (pgC x)] s (.bool false) s)\/(∀s,SCalls Tryz.prog 9 [.agg (pgC x)] s fun w u=>∃r:Bool,w=.ret (.bool r)/\u=s/\True)/\(∀s,SRet Tryz.prog 10 [.agg (pgC x)] s (.bool false) s):=by
 by_cases hF:Im x
 ·right
  exact⟨fun s=>SCalls.mono (wm x hx s) fun w u ⟨r,h1,h2,_⟩=>⟨r,h1,h2,trivial⟩,fun s=>SCalls.mono (nR x hx hF s) fun w u ⟨r,h1,h2,h3⟩=>by
   cases r with
   |false=>exact⟨h1,h2⟩
   |true=>exact absurd ⟨hF,h3 rfl⟩ hno⟩
 ·left
  exact fun s=>SCalls.mono (wm x hx s) fun w u ⟨r,h1,h2,h3⟩=>by
   cases r with
   |false=>exact⟨h1,h2⟩
   |true=>exact absurd (h3 rfl) hF
theorem Mk (x:Pgm)(hx:PgmOk x)(hF:Im x):(∀s,SCalls Tryz.prog 9 [.agg (pgC x)] s fun w u=>∃r:Bool,w=.ret (.bool r)/\u=s/\True)/\(∀s,SCalls Tryz.prog 10 [.agg (pgC x)] s fun w u=>∃r:Bool,w=.ret (.bool r)/\u=s/\True):=
 ⟨fun s=>SCalls.mono (wm x hx s) fun w u ⟨r,h1,h2,_⟩=>⟨r,h1,h2,trivial⟩,fun s=>SCalls.mono (nR x hx hF s) fun w u ⟨r,h1,h2,_⟩=>⟨r,h1,h2,trivial⟩⟩
theorem LU (x:Pgm)(hx:PgmOk x)(hds:∀d,d∈x.doms->d.size<=256)(oL:Own)(s:St):SCalls Tryz.prog 13 [.agg (pgC x),.lst [] oL] s fun w u=>∃q:List Tbl×Int×Bool,w=.ret (.tup [.lst (q.1.map aZ) .no,.int .i64 q.2.1,.bool q.2.2])/\u=s/\True:=
 SCalls.mono (Dn x [] oL hx hds (by simp) (fun t ht=>by cases ht) s) fun w u ⟨q,h1,h2,_⟩=>⟨q,h1,h2,trivial⟩
set_option maxHeartbeats 16000000 in
theorem qx (x:Pgm)(av:Int)(hx:PgmOk x)(t:St):SRet Tryz.prog 4 [.agg (pgC x),.int .i64 av] t (.bool true) t:=by
  have hlr:(x.rules.map az).length=x.rules.length:=by simp
  have hrl:=hx.2.2.1
  by_cases hFL:Im x/\Ih x
  · obtain⟨hF,hL⟩:=hFL
    obtain⟨w1,w2⟩:=Mk x hx hF
    by_cases h0:x.rules.length=0
    · have h0i:((x.rules.length:Int)=0)=True:=eq_true (by omega)
      simp only[pgC]at w1 w2 ⊢
      clear hF hL hx
      refine bh Tryz.func4 rfl Tryz.ntmps4 rfl fun Q hQ hQe=>?_
      (repeat'(first|refine Ctl ?_|((with_reducible refine j_ hK ?_);clear hK hE K E)|((with_reducible refine aj (fun h=>?_) (fun h=>?_))<;>(try(exfalso;assumption)))|((first|(with_reducible first|refine ae fun K E hK hE=>?_|refine ak sw (sV _) ?_)|((with_reducible refine aT CW (w1 _) (fun a h=>?_)))|((with_reducible refine aT AT (w2 _) (fun a h=>?_)))|((with_reducible refine ao (fun b hb=>?_)))|((with_reducible refine dC (fun h=>?_) (fun h=>?_))))<;>(try simp(disch:=omega) only[go_sem,seval, *]))))
      all_goals(refine ap j2 hQ ?_)
      all_goals exact⟨_,t,Wk.refl _,v_ _ hb,rfl,rfl⟩
    · have hds:∀d,d∈x.doms->d.size<=256:=fun d hd=>by have:=hL d hd;omega
      have h0i:((x.rules.length:Int)=0)=False:=eq_false (by omega)
      have w4:=fun o s=>LU x hx hds o s
      have w5:=fun oL s=>Mg hx hds .no .no .no oL s
      have HX:=u_ hx
      have HDS:=u_ hds
      obtain⟨_,_,hfr,_,hfb⟩:=hF
      have HFB:=u_ hfb
      simp only[pgC]at w1 w2 w4 ⊢
      clear hL hx hds hfb
      refine bh Tryz.func4 rfl Tryz.ntmps4 rfl fun Q hQ hQe=>?_
      (repeat'(first|refine Ctl ?_|((with_reducible refine j_ hK ?_);clear hK hE K E)|((with_reducible refine aj (fun h=>?_) (fun h=>?_))<;>(try(exfalso;assumption)))|((first|(with_reducible first|refine ae fun K E hK hE=>?_|refine ak sw (sV _) ?_)|((with_reducible refine aT CW (w1 _) (fun a h=>?_)))|((with_reducible refine aT AT (w2 _) (fun a h=>?_)))|((with_reducible refine ao (fun b hb=>?_)))|((with_reducible refine dC (fun h=>?_) (fun h=>?_))))<;>(try simp(disch:=omega) only[go_sem,seval, *]))))
      all_goals first
        | ((first | refine ap j2 hQ ?_ | refine eE j2 hQ ?_ | refine kB hQ ?_)
           exact⟨_,t,Wk.refl _,v_ _ hb,rfl,rfl⟩)
        |skip
      obtain⟨bp,hbp⟩:∃z,z=b:=⟨_,rfl⟩
      subst hbp
      have q2:(t.set bp (.obj 26 [.lst (x.doms.map dmC) .no,.lst (x.decls.map aB) .no,.lst (x.rules.map az) .no])) bp=.obj 26 [.lst (x.doms.map dmC) .no,.lst (x.decls.map aB) .no,.lst (x.rules.map az) .no]:=q_ _ _ _
      have HFS:Hid (Fg (t.set bp (.obj 26 [.lst (x.doms.map dmC) .no,.lst (x.decls.map aB) .no,.lst (x.rules.map az) .no])) t):=u_ (v_ _ hb)
      generalize t.set bp (.obj 26 [.lst (x.doms.map dmC) .no,.lst (x.decls.map aB) .no,.lst (x.rules.map az) .no])=S at *
      clear hb
      refine bi (fun m env s'=>∃(i:Nat),i<=x.rules.length/\m+i=x.rules.length/\S=s'/\Hid (∀r,r∈x.rules.take i->∀c,c∈r.body->c.not=false)/\env 1=.int .i64 av/\env 2=.ptr bp 0/\env 5=.int .i64 i) x.rules.length ?_ ?_
      · exact⟨0,by omega,by omega,rfl,u_ (fun r hr=>by simp at hr),ab,ab,ab⟩
      rintro m env s' ⟨i,hi,hm,rfl,HPL,e1,e2,e5⟩
      by_cases hlt:i<x.rules.length
      · obtain⟨r,hr⟩:=aO hlt
        have hsx:=fm hr
        have hbl:=HFB.out r (p_ hr)
        have HR:=u_ hr
        obtain⟨⟨rn,rr,rts⟩,rb⟩:=r
        simp only[az]at hsx
        simp only at hbl
        have hbl1:(rb.map aF).length=rb.length:=by simp
        clear hr
        (repeat'(first|refine Ctl ?_|((with_reducible refine j_ hK ?_);clear hK hE K E)|((with_reducible refine aj (fun h=>?_) (fun h=>?_))<;>(try(exfalso;assumption)))|(((with_reducible refine ae fun K E hK hE=>?_))<;>(try simp(disch:=omega) only[go_sem,seval, *]))))
        refine bi (fun m2 env s2=>∃(k:Nat),k<=rb.length/\m2+k=rb.length/\S=s2/\Hid (∀c,c∈rb.take k->c.not=false)/\env 1=.int .i64 av/\env 2=.ptr bp 0/\env 5=.int .i64 i/\env 6=.int .i64 k) rb.length ?_ ?_
        · exact⟨0,by omega,by omega,rfl,u_ (fun r hr=>by simp at hr),ab,ab,ab,ab⟩
        clear e1 e2 e5 env
        rintro m2 env s2 ⟨k,hk,hm2,rfl,HB,e1,e2,e5,e6⟩
        by_cases hlk:k<rb.length
        · obtain⟨c,hc⟩:=aO hlk
          have hsc:=c5 hc
          have HC:=u_ hc
          obtain⟨cn,cr,cts⟩:=c
          simp only[aF]at hsc
          clear hc
          cases cn with
          |true=>
            (repeat'(first|refine Ctl ?_|((with_reducible refine j_ hK ?_);clear hK hE K E)|((with_reducible refine aj (fun h=>?_) (fun h=>?_))<;>(try(exfalso;assumption)))|(((with_reducible first|refine ae fun K E hK hE=>?_|refine ak sw (sV _) ?_))<;>(try simp(disch:=omega) only[go_sem,seval, *]))))
            all_goals(refine ap j2 hQ ?_)
            all_goals exact⟨_,_,Wk.refl _,HFS.out,rfl,rfl⟩
          |false=>
            have HB2:Hid (∀c,c∈rb.take (k+1)->c.not=false):=u_ fun c hc=>by
              rw[b9 HC.out]at hc
              rcases l_.1 hc with h|h
              · exact HB.out c h
              · rw[e_]at h;subst h;rfl
            (repeat'(first|refine Ctl ?_|((with_reducible refine j_ hK ?_);clear hK hE K E)|((with_reducible refine aj (fun h=>?_) (fun h=>?_))<;>(try(exfalso;assumption)))|(((with_reducible refine ae fun K E hK hE=>?_))<;>(try simp(disch:=omega) only[go_sem,seval, *]))))
            all_goals exact⟨m2 - 1,by omega,k+1,by omega,by omega,rfl,HB2,ab,ab,ab,ab⟩
        · obtain rfl:k=rb.length:=by omega
          have HPL2:Hid (∀r,r∈x.rules.take (i+1)->∀c,c∈r.body->c.not=false):=u_ fun r hr=>by
            rw[b9 HR.out]at hr
            rcases l_.1 hr with h|h
            · exact HPL.out r h
            · rw[e_]at h;subst h;exact fun c hc=>HB.out c (by rw[f_];exact hc)
          (repeat'(first|refine Ctl ?_|((with_reducible refine j_ hK ?_);clear hK hE K E)|((with_reducible refine aj (fun h=>?_) (fun h=>?_))<;>(try(exfalso;assumption)))|(((with_reducible refine ae fun K E hK hE=>?_))<;>(try simp(disch:=omega) only[go_sem,seval, *]))))
          all_goals exact⟨m - 1,by omega,i+1,by omega,by omega,rfl,HPL2,ab,ab,ab⟩
      · obtain rfl:i=x.rules.length:=by omega
        have HP:Hid (sU x):=u_ fun r hr=>HPL.out r (by rw[f_];exact hr)
        obtain⟨k,hk,hkl⟩:=BM av (n:=x.rules.length) (by omega)
        have hsub:∀r,r∈x.rules.take k++x.rules.drop (k+1)->r∈x.rules:=by
          intro r hr
          rcases l_.1 hr with h|h
          · exact List.mem_of_mem_take h
          · exact List.mem_of_mem_drop h
        have hlen:(x.rules.take k++x.rules.drop (k+1)).length<=x.rules.length:=by simp only[d_,A_,D_];omega
        have w6:=fun o1 o2 o3 oL s=>Mg (HX.out.sub hsub hlen) HDS.out o1 o2 o3 oL s
        have HLP:=u_ (fun(L M:List Tbl) (f:Int) (hL:cP x [] L 0) (hM:cP ⟨x.doms,x.decls,x.rules.take k++x.rules.drop (k+1)⟩ [] M f)=>yn HDS.out HP.out hsub hlen hL hM)
        have HEM:=u_ (fun(M:List Tbl) (f:Int) (hM:cP ⟨x.doms,x.decls,x.rules.take k++x.rules.drop (k+1)⟩ [] M f)=>L8 (x:=⟨x.doms,x.decls,x.rules.take k++x.rules.drop (k+1)⟩) HDS.out hM)
        simp only[List.map_append]at w6
        have htk:List.take k (x.rules.map az)=(x.rules.take k).map az:=by rw[List.map_take]
        have hdk:List.drop (k+1) (x.rules.map az)=(x.rules.drop (k+1)).map az:=by rw[List.map_drop]
        have hltk:(x.rules.take k).length=k:=by rw[A_];omega
        have hldk:(x.rules.drop (k+1)).length=x.rules.length - (k+1):=by rw[D_]
        have hr5:∀y,y∈(x.rules.take k).map az->y.length=4:=by
          intro y hy
          obtain⟨r,_,rfl⟩:=E_.1 hy
          rfl
        have hr6:∀y,y∈(x.rules.drop (k+1)).map az->y.length=4:=by
          intro y hy
          obtain⟨r,_,rfl⟩:=E_.1 hy
          rfl
        have hrr:x.rules.length<=x.rules.length:=Nat.le_refl _
        have hdk2:List.drop (k+1) (List.take x.rules.length (x.rules.map az))=(x.rules.drop (k+1)).map az:=by
          rw[B_ (by simp),List.map_drop]
        have h0k:0<=k:=Nat.zero_le _
        have hk2:k<=x.rules.length:=Nat.le_of_lt hkl
        have hk3:k+1<=x.rules.length:=hkl
        have hr4:∀y,y∈x.rules.map az->y.length=4:=by
          intro y hy
          obtain⟨r,_,rfl⟩:=E_.1 hy
          rfl
        clear hsub hlen
        have hSpf:S bp≠.free:=by rw[q2];simp
        (repeat'(first|refine Ctl ?_|(with_reducible first|(refine j_ hK ?_;clear hK hE K E)|(refine j_ hKh ?_;clear hKh Kh)|(refine j_ hKb (aK ?_);clear hKb Kb)|refine au 16 [([0,1,2,3,4,5],6,[[]]),([7],8,[[],[]])] [] hQe fun K E hK hE=>?_|refine au 17 [([0,1,2,3,4,5,6],7,[[]]),([8],9,[[],[]])] [] hQe fun K E hK hE=>?_)|((with_reducible refine aj (fun h=>?_) (fun h=>?_))<;>(try(exfalso;assumption)))|((first|(with_reducible first|refine ae fun K E hK hE=>?_|refine ak sw (sV _) ?_|refine gm ?_|refine aE fun Kh hKh=>?_|refine aC fun Kh hKh=>?_|refine aL fun Kb hKb=>?_)|((with_reducible refine aT K9 (w4 _ _) (fun a h=>?_)))|((with_reducible refine ao (fun b hb=>?_));(try(obtain⟨_,_⟩:=nef hb hSpf)))|((with_reducible refine cB (fun o2 ho=>?_));(try simp(disch:=assumption) only[aU,aN,hltk,hldk]at ho);(repeat(obtain⟨_,ho⟩:=ho));(try(have hop:=OwnOk.not ho hSpf))))<;>(try simp(disch:=first|assumption|omega) only[go_sem,seval,aN, *]))))
        all_goals first
          | ((first | refine ap j2 hQ ?_ | refine eE j2 hQ ?_ | refine kB hQ ?_)
             exact⟨_,_,Wk.refl _,HFS.out,rfl,rfl⟩)
          |skip
        obtain⟨bq,hbq⟩:∃z,z=b:=⟨_,rfl⟩
        subst hbq
        have hqo:ax o2 bq:=by assumption
        have hZp:((S.own o2 43 4 (k+(x.rules.length - (k+1)))).set bq (.obj 26 [.lst (x.doms.map dmC) .no,.lst (x.decls.map aB) .no,.lst ((x.rules.take k).map az++(x.rules.drop (k+1)).map az) o2])) bp=.obj 26 [.lst (x.doms.map dmC) .no,.lst (x.decls.map aB) .no,.lst (x.rules.map az) .no]:=by rw[k_ _ _ (by assumption),dh hop];exact q2
        have hZq:((S.own o2 43 4 (k+(x.rules.length - (k+1)))).set bq (.obj 26 [.lst (x.doms.map dmC) .no,.lst (x.decls.map aB) .no,.lst ((x.rules.take k).map az++(x.rules.drop (k+1)).map az) o2])) bq=.obj 26 [.lst (x.doms.map dmC) .no,.lst (x.decls.map aB) .no,.lst ((x.rules.take k).map az++(x.rules.drop (k+1)).map az) o2]:=q_ _ _ _
        have hFZ:Fg ((S.own o2 43 4 (k+(x.rules.length - (k+1)))).set bq (.obj 26 [.lst (x.doms.map dmC) .no,.lst (x.decls.map aB) .no,.lst ((x.rules.take k).map az++(x.rules.drop (k+1)).map az) o2])) t:=(v_ _ (by rw[aR];exact⟨hqo,hb⟩)).trans ((Fg.own ho).trans HFS.out)
        generalize ((S.own o2 43 4 (k+(x.rules.length - (k+1)))).set bq (.obj 26 [.lst (x.doms.map dmC) .no,.lst (x.decls.map aB) .no,.lst ((x.rules.take k).map az++(x.rules.drop (k+1)).map az) o2]))=Z at *
        have HFZ:=u_ hFZ
        clear hFZ ho hop hqo hb hSpf q2 w1 w2 w4 hr4 hr5 hr6 hdk2 hdk htk
        refine aT D7 (w5 _ _) (fun q1 h1=>?_)
        simp only[go_sem,seval]
        (repeat'(first|refine Ctl ?_|((with_reducible refine j_ hK ?_);clear hK hE K E)|(((with_reducible refine ae fun K E hK hE=>?_))<;>(try simp(disch:=omega) only[go_sem,seval, *]))))
        refine aT D7 (w6 _ _ _ _ _) (fun q3 h2=>?_)
        by_cases he:q1.2=0
        · have h1':=h1
          rw[he]at h1'
          obtain⟨hf,hlen,hsub⟩:=HLP.out _ _ _ h1' h2
          have her:=L8 HDS.out h1
          have hem:=HEM.out _ _ h2
          obtain⟨L,e⟩:=q1
          obtain⟨M,f⟩:=q3
          simp only at he hf hlen hsub her hem
          subst he
          subst hf
          have hlL:(L.map aZ).length=L.length:=by simp
          have hlM:(M.map aZ).length=L.length:=by rw[a_];exact hlen
          have hLl:=her.1
          have HSUB:=u_ hsub
          have HER:=u_ her.2
          have HEM2:=u_ hem.2
          clear h1 h1' h2 her hem hsub HLP HEM w5 w6
          simp only[go_sem,seval]
          (repeat'(first|refine Ctl ?_|((with_reducible refine j_ hK ?_);clear hK hE K E)|((with_reducible refine aj (fun h=>?_) (fun h=>?_))<;>(try(exfalso;assumption)))|(((with_reducible refine ae fun K E hK hE=>?_))<;>(try simp(disch:=omega) only[go_sem,seval, *]))))
          refine bi (fun m env s'=>∃(i:Nat),i<=L.length/\m+i=L.length/\Z=s'/\env 2=.ptr bp 0/\env 12=.lst (L.map aZ) .no/\env 14=.lst (M.map aZ) .no/\env 16=.int .i64 i) L.length ?_ ?_
          · exact⟨0,by omega,by omega,rfl,ab,ab,ab,ab⟩
          clear e1 e2 e5 env
          rintro m env s' ⟨i,hi,hm,rfl,e2,e12,e14,e16⟩
          by_cases hlt:i<L.length
          · obtain⟨ta,hta⟩:∃ta,M[i]?=some ta:=aO (by omega)
            obtain⟨tb,htb⟩:=aO hlt
            have hsa:=em hta
            have hsb:=em htb
            have HS2:=u_ (HSUB.out i ta tb hta htb)
            have hra:=HEM2.out ta (p_ hta)
            have hrb:=HER.out tb (p_ htb)
            obtain⟨an,ar⟩:=ta
            obtain⟨bn,br⟩:=tb
            simp only[aZ]at hsa hsb
            simp only at HS2 hra hrb
            have hal:(aD ar).length=ar.length:=cL
            have hal2:=hra.1
            have HRA:=u_ hra.2
            have HRB:=u_ hrb
            clear hta htb hra hrb
            (repeat'(first|refine Ctl ?_|((with_reducible refine j_ hK ?_);clear hK hE K E)|((with_reducible refine aj (fun h=>?_) (fun h=>?_))<;>(try(exfalso;assumption)))|(((with_reducible refine ae fun K E hK hE=>?_))<;>(try simp(disch:=omega) only[go_sem,seval, *]))))
            refine bi (fun m2 env s2=>∃(j:Nat),j<=ar.length/\m2+j=ar.length/\Z=s2/\env 2=.ptr bp 0/\env 12=.lst (L.map aZ) .no/\env 14=.lst (M.map aZ) .no/\env 16=.int .i64 i/\env 17=.int .i64 j) ar.length ?_ ?_
            · exact⟨0,by omega,by omega,rfl,ab,ab,ab,ab,ab⟩
            clear e2 e12 e14 e16 env
            rintro m2 env s2 ⟨j,hj,hm2,rfl,e2,e12,e14,e16,e17⟩
            by_cases hlj:j<ar.length
            · obtain⟨r,hr⟩:=aO hlj
              have hsr:=dP hr
              have wh:=fun s=>Dc br r .no .no HRB.out (HRA.out r (p_ hr)) s
              rw[decide_eq_true (HS2.out r (p_ hr))]at wh
              clear hr
              (repeat'(first|refine Ctl ?_|(with_reducible first|(refine j_ hK ?_;clear hK hE K E)|(refine j_ hKh ?_;clear hKh Kh)|(refine j_ hKb (aK ?_);clear hKb Kb)|refine au 30 [([0,1,2,3,4,5,6,7,8,9,10,11,12],13,[[]])] [14] hQe fun K E hK hE=>?_)|((with_reducible refine aj (fun h=>?_) (fun h=>?_))<;>(try(exfalso;assumption)))|(((with_reducible first|refine ae fun K E hK hE=>?_|refine ak D8 (wh _) ?_|refine aE fun Kh hKh=>?_|refine aC fun Kh hKh=>?_|refine aL fun Kb hKb=>?_))<;>(try simp(disch:=omega) only[go_sem,seval, *]))))
              all_goals exact⟨m2 - 1,by omega,j+1,by omega,by omega,rfl,ab,ab,ab,ab,ab⟩
            · obtain rfl:j=ar.length:=by omega
              (repeat'(first|refine Ctl ?_|((with_reducible refine j_ hK ?_);clear hK hE K E)|((with_reducible refine aj (fun h=>?_) (fun h=>?_))<;>(try(exfalso;assumption)))|(((with_reducible refine ae fun K E hK hE=>?_))<;>(try simp(disch:=omega) only[go_sem,seval, *]))))
              all_goals exact⟨m - 1,by omega,i+1,by omega,by omega,rfl,ab,ab,ab,ab⟩
          · obtain rfl:i=L.length:=by omega
            (repeat'(first|refine Ctl ?_|((with_reducible refine j_ hK ?_);clear hK hE K E)|((with_reducible refine aj (fun h=>?_) (fun h=>?_))<;>(try(exfalso;assumption)))|(((with_reducible first|refine ae fun K E hK hE=>?_|refine ak sw (sV _) ?_))<;>(try simp(disch:=omega) only[go_sem,seval, *]))))
            all_goals(refine ap j2 hQ ?_)
            all_goals exact⟨_,_,Wk.refl _,HFZ.out,rfl,rfl⟩
        · have heF:(q1.2=0)=False:=eq_false he
          clear h1 h2 he
          simp only[go_sem,seval]
          (repeat'(first|refine Ctl ?_|((with_reducible refine j_ hK ?_);clear hK hE K E)|((with_reducible refine aj (fun h=>?_) (fun h=>?_))<;>(try(exfalso;assumption)))|(((with_reducible first|refine ae fun K E hK hE=>?_|refine ak sw (sV _) ?_))<;>(try simp(disch:=omega) only[go_sem,seval, *]))))
          all_goals(refine ap j2 hQ ?_)
          all_goals exact⟨_,_,Wk.refl _,HFZ.out,rfl,rfl⟩
  · rcases Mj x hx hFL with w1|⟨w1,w2⟩
    · clear hFL hx
      simp only[pgC]at w1 ⊢
      refine bh Tryz.func4 rfl Tryz.ntmps4 rfl fun Q hQ hQe=>?_
      (repeat'(first|refine Ctl ?_|((with_reducible refine j_ hK ?_);clear hK hE K E)|((with_reducible refine aj (fun h=>?_) (fun h=>?_))<;>(try(exfalso;assumption)))|((first|(with_reducible first|refine ae fun K E hK hE=>?_|refine ak CW (w1 _) ?_|refine ak sw (sV _) ?_)|((with_reducible refine ao (fun b hb=>?_))))<;>(try simp(disch:=omega) only[go_sem,seval, *]))))
      all_goals(refine ap j2 hQ ?_)
      all_goals exact⟨_,t,Wk.refl _,v_ _ hb,rfl,rfl⟩
    · clear hFL hx
      simp only[pgC]at w1 w2 ⊢
      refine bh Tryz.func4 rfl Tryz.ntmps4 rfl fun Q hQ hQe=>?_
      (repeat'(first|refine Ctl ?_|((with_reducible refine j_ hK ?_);clear hK hE K E)|((with_reducible refine aj (fun h=>?_) (fun h=>?_))<;>(try(exfalso;assumption)))|((first|(with_reducible first|refine ae fun K E hK hE=>?_|refine ak AT (w2 _) ?_|refine ak sw (sV _) ?_)|((with_reducible refine aT CW (w1 _) (fun a h=>?_)))|((with_reducible refine ao (fun b hb=>?_)))|((with_reducible refine dC (fun h=>?_) (fun h=>?_))))<;>(try simp(disch:=omega) only[go_sem,seval, *]))))
      all_goals(refine ap j2 hQ ?_)
      all_goals exact⟨_,t,Wk.refl _,v_ _ hb,rfl,rfl⟩
end Go.Proofs.YteldpmgepfaiiaaGreatDoor
