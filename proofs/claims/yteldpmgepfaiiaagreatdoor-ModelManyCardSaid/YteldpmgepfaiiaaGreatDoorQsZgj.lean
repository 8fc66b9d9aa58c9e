/- Walks of functions, and plain facts. Conditions: those in the statements. -/
import Derived.Test.YteldpmgepfaiiaaGreatDoorQsWxj
set_option linter.unusedSimpArgs false
set_option linter.unusedVariables false
set_option maxRecDepth 100000
namespace Go.Proofs.YteldpmgepfaiiaaGreatDoor
open Go.RowKit
theorem kU {sz:Nat}:∀{ys:List (List VV)},(∀y,y∈ys->y.length=sz)->∀{i j:Nat} {x:List VV} {y:VV},ys[i]?=some x->x[j]?=some y->ys.flatten[i*sz+j]?=some y
 |[],_,i,j,x,y,h,_=>by simp at h
 |a::ys,hz,0,j,x,y,h,hy=>by
  simp only[List.getElem?_cons_zero,Option.some.injEq]at h
  subst h
  rw[List.flatten_cons,Nat.zero_mul,Nat.zero_add,o_ (n_.1 hy).1]
  exact hy
 |a::ys,hz,i+1,j,x,y,h,hy=>by
  have ha:=hz a (by simp)
  rw[List.flatten_cons,r_ (by rw[ha,Nat.add_mul];omega),show (i+1)*sz+j - a.length=i*sz+j by rw[ha,Nat.add_mul];omega]
  exact kU (fun y hy=>hz y (by simp[hy])) (by simpa using h) hy
theorem fI {sz:Nat}:∀{ys:List (List VV)},(∀y,y∈ys->y.length=sz)->ys.flatten.length=ys.length*sz
 |[],_=>by simp
 |a::ys,hz=>by
  rw[List.flatten_cons,d_,hz a (by simp),fI (fun y hy=>hz y (by simp[hy])),List.length_cons,Nat.add_mul]
  omega
section
variable {w0 w : World} {G : Gh} {s : St} {b g i n sz : Nat} {T : TypeId} {xs : List VV}
theorem Sim.frzRs (h:Sim w0 G w s)(hb:s g=.row T sz xs) :
  ∃G',G.le G'/\Sim w0 G' w (s.set g .free)/\(∀(i:Nat) (y:VV),xs[i]?=some y->y.one=true/\∃v,G'.K g i=some v/\R G' v y):=by
 have hok:=h.ok g
 rw[hb]at hok
 obtain⟨hB,hn,c,cap,hh,hq,hs,hl,hm,hx⟩:=hok
 have hle:G.le ⟨fun b' i=>if b'=g then(if i<xs.length then c[i]? else none)else G.K b' i,G.cap⟩:=⟨fun b' i v hv=>by
  by_cases e:b'=g
  ·subst e;rw[hn i]at hv;cases hv
  ·simp only[if_neg e];exact hv,fun _ _ hc=>hc⟩
 refine⟨_,hle,⟨h.below,fun b' i v hv=>?_,h.cap,fun b'=>?_,h.gl,?_⟩,fun i y hy=>?_⟩
 ·by_cases e:b'=g
  ·subst e
   simp only[if_true]at hv
   split at hv
   ·simp[World.cell?,hh,hv]
   ·cases hv
  ·simp only[if_neg e]at hv
   exact h.K _ _ _ hv
 ·by_cases e:b'=g
  ·subst e;rw[q_];trivial
  ·rw[k_ _ _ e]
   exact CellOk.keep (h.ok b') rfl hle (fun i=>if_neg e)
 ·refine Rows.keep h.rows hle (Nat.le_refl _) (fun g' hg hs=>?_) (fun b' T' xs' rs hb'=>?_)
  ·have hne:g'≠g:=by rintro rfl;rw[hb]at hs;cases hs
   exact⟨by rw[k_ _ _ hne];exact hs,rfl,fun i=>if_neg hne⟩
  ·have hne:b'≠g:=by rintro rfl;rw[q_]at hb';cases hb'
   rw[k_ _ _ hne]at hb'
   exact⟨xs',rs,hb',fun r hr=>⟨hr,rfl,fun c hc=>⟨c,hc,rfl⟩⟩⟩
 ·obtain⟨h1,v,hv,hr⟩:=hx i y hy
  have hi:=(n_.1 hy).1
  exact⟨h1,v,by simp only[if_true,if_pos hi];exact hv,hr.mono hle⟩
theorem R.frzs {G:Gh}{v:Value}{ys:List (List VV)}(hn:ys.length=n)(hz:∀y,y∈ys->y.length=sz)(hK:∀(i:Nat) (y:VV),ys.flatten[i]?=some y->y.one=true/\∃v,G.K g i=some v/\R G v y)(hr:R G v (.mrw g n)):R G v (.lst ys .no):=by
 cases hr with
 |mrw b' n' cap sz' hq hc=>
  refine .lst g 0 n cap sz _ .no (fun i j=>(G.K g (i*sz+j)).getD default) hn hc hz ?_ ?_ ?_ (.inl rfl)
  ·intro x hx y hy
   obtain⟨i,hi⟩:=h_.1 hx
   obtain⟨j,hj⟩:=h_.1 hy
   exact(hK _ y (kU hz hi hj)).1
  ·intro i j hi hj
   obtain⟨x,hx⟩:=aN (l:=ys) (i:=i) (by omega)
   obtain⟨y,hy⟩:=aN (l:=x) (i:=j) (by rw[hz x (p_ hx)];exact hj)
   obtain⟨_,v,h1,_⟩:=hK _ y (kU hz hx hy)
   rw[Nat.zero_add,h1]
   rfl
  ·intro i j x y hx hy
   obtain⟨_,v,h1,h2⟩:=hK _ y (kU hz hx hy)
   rw[h1]
   exact h2
theorem yj {P:Program}{N:Nat}{D:List Deferred}{c:Code}{k:List Itm}{Q:Pst}{env:Env}(t g n:Nat){ys:List (List VV)}(hb:s g=.row T sz ys.flatten)(ht:env t=.mrw g n)(hn:ys.length=n)(hz:∀y,y∈ys->y.length=sz)
  (h:Kp P N D (.code c::k) Q .norm (upd env t (.lst ys .no)) (s.set g .free)):Kp P N D (.code c::k) Q .norm env s:=by
 intro w0 G w a hfr hD hS
 obtain⟨G',hle,hS',hK⟩:=hS.frzRs hb
 refine wp_mono (h w0 G' w a ⟨hfr.size,fun i=>?_⟩ hD hS') fun e a w=>Up.back hle
 by_cases e:i=t
 ·subst e
  have hr:=(hfr.rel i).mono hle
  rw[ht]at hr
  simp only[upd,if_true]
  exact hr.frzs hn hz hK
 ·simp only[upd,if_neg e]
  exact(hfr.rel i).mono hle
end
set_option maxHeartbeats 8000000 in
theorem EF (x:Pgm)(d:Dcl)(tb:Tbl)(hx:PgmOk x)(hdl:d.doms.length<=140737488355328)(hrt:tb.rs.length<=1000000/\∀r,r∈tb.rs->r.length<=1000000)(t:St) :
  SRet Tryz.prog 42 [.agg (pgC x),.agg (az d),.agg (aX tb)] t (.bool (dC x.doms d.doms none tb.rs)) t:=by
 have w2:=fun n s=>rT x n hx.1 s
 obtain⟨dn,dd⟩:=d
 obtain⟨tn,trs⟩:=tb
 simp only at hdl hrt ⊢
 generalize hB:dC x.doms dd none trs=B
 have HB:Hid (dC x.doms dd (fx trs 0) (trs.drop 0)=B):=u_ hB
 have hrl0:(aF trs).length=trs.length:=rowsV_len
 clear hB
 simp only[pgC,az,aX]at w2 ⊢
 refine aw Tryz.func42 rfl Tryz.ntmps42 rfl fun Q hQ hQe=>?_
 (repeat'(first|refine Ctl ?_|((with_reducible refine j_ hK ?_);clear hK hE K E)|((first|(with_reducible refine ae fun K E hK hE=>?_)|((with_reducible refine ao (fun b hb=>?_));(repeat(obtain⟨_,hb⟩:=hb))))<;>(try simp(disch:=omega) only[go_sem,seval, *]))))
 rename_i b3 hb3 b4 _ _ hb4 _ _ _ _
 obtain⟨b5,hb5⟩:∃z,z=b:=⟨_,rfl⟩
 subst hb5
 generalize hS:((t.set b3 (.obj 26 [.lst (x.doms.map dmC) .no,.lst (x.decls.map az) .no,.lst (x.rules.map ax) .no])).set b4 (.obj 66 [.str dn,.lst (aA dd) .no])).set b5 (.obj 46 [.str tn,.lst (aF trs) .no])=S
 have q3:S b3=.obj 26 [.lst (x.doms.map dmC) .no,.lst (x.decls.map az) .no,.lst (x.rules.map ax) .no]:=by rw[<- hS];simp only[St.set,if_true,if_false, *]
 have q4:S b4=.obj 66 [.str dn,.lst (aA dd) .no]:=by rw[<- hS];simp only[St.set,if_true,if_false, *]
 have q5:S b5=.obj 46 [.str tn,.lst (aF trs) .no]:=by rw[<- hS];simp only[St.set,if_true,if_false, *]
 have HF:Hid (Fg S t):=u_ (by rw[<- hS];exact w_ (w_ (v_ _ hb3) hb4) hb)
 clear hS hb3 hb4 hb
 refine bB (fun m env s'=>∃(j:Nat),j<=trs.length/\m+j=trs.length/\S=s'/\Hid (dC x.doms dd (fx trs j) (trs.drop j)=B)/\env 3=.ptr b3 0/\env 4=.ptr b4 0/\env 5=.ptr b5 0/\env 7=.int .i64 j) trs.length ?_ ?_
 ·exact⟨0,by omega,by omega,rfl,HB,ab,ab,ab,ab⟩
 clear HB
 rintro m env s' ⟨j,hj,hm,he0,HFB,e3,e4,e5,e7⟩
 subst he0
 by_cases hltj:j<trs.length
 ·obtain⟨r,hr⟩:=aN hltj
  have hsr:=dK hr
  have hrl1:=hrt.2 r (p_ hr)
  have HR:=u_ hr
  have hfb:=HFB.out
  rw[tD hr]at hfb
  have hrl:(aB r).length=r.length:=bH
  have hdl2:(aA dd).length=dd.length:=by simp[aA]
  generalize hRB:fw x.doms dd r=RB at hfb
  have HRB:Hid (fw x.doms (dd.drop 0) (r.drop 0)=RB):=u_ hRB
  clear hRB hr HFB
  by_cases hlen:r.length=dd.length
  ·have hrld:=u_ hlen
   have hlenT:((r.length:Int)=(dd.length:Int))=True:=eq_true (by omega)
   rw[decide_eq_true hlen,Bool.true_and]at hfb
   cases j with
   |zero=>
    have HFB:Hid ((RB && dC x.doms dd (some r) (trs.drop (0+1)))=B):=u_ (by rw[<- hfb];simp only[fx,hdB,Bool.true_and])
    clear hfb hlen
    (repeat'(first|refine Ctl ?_|((with_reducible refine j_ hK ?_);clear hK hE K E)|((with_reducible refine aj (fun h=>?_) (fun h=>?_))<;>(try(exfalso;first|assumption|omega)))|(((with_reducible refine ae fun K E hK hE=>?_))<;>(try simp(disch:=omega) only[go_sem,seval,hrl0,hsr,hrl,hdl2,hlenT, *]))))
    refine bB (fun m3 env s3=>∃(q:Nat),q<=r.length/\m3+q=r.length/\S=s3/\Hid (fw x.doms (dd.drop q) (r.drop q)=RB)/\env 3=.ptr b3 0/\env 4=.ptr b4 0/\env 5=.ptr b5 0/\env 7=.int .i64 (0:Nat)/\env 8=.lst (aB r) .no/\env 9=.int .i64 q) r.length ?_ ?_
    ·exact⟨0,by omega,by omega,rfl,HRB,ab,ab,ab,ab,ab,ab⟩
    clear e3 e4 e5 e7 env HRB
    rintro m3 env s3 ⟨q,hq,hm3,he0,HRB,e3,e4,e5,e7,e8,e9⟩
    subst he0
    by_cases hltq:q<r.length
    ·obtain⟨nn,hnn⟩:=aN hltq
     obtain⟨dq,hdq⟩:∃dq,dd[q]?=some dq:=aN (by have:=hrld.out;omega)
     have hsn2:=cD hnn
     have hsd2:=dm hdq
     have hrb2:=HRB.out
     rw[mK hdq hnn]at hrb2
     have w3:=fun s=>w2 dq s
     generalize da x.doms dq=dz at *
     clear hnn hdq
     by_cases hn0:nn<0
     ·have HBN:Hid (B=false):=u_ (by rw[<- HFB.out,<- hrb2];simp only[show ¬ (0<=nn) by omega,decide_false,Bool.false_and])
      clear hrb2
      (repeat'(first|refine Ctl ?_|(with_reducible first|(refine j_ hK ?_;clear hK hE K E)|(refine j_ hKh ?_;clear hKh Kh)|(refine j_ hKb (aL ?_);clear hKb Kb)|refine aq 10 [([0,1,2,3,4,5,6,7,8,9,10,11,12,13,14,15],16,[[6,7,8,9]])] [17,18] hQe fun K E hK hE=>?_)|((with_reducible refine aj (fun h=>?_) (fun h=>?_))<;>(try(exfalso;assumption)))|(((with_reducible first|refine ae fun K E hK hE=>?_|refine aE fun Kh hKh=>?_|refine aD fun Kh hKh=>?_|refine aM fun Kb hKb=>?_))<;>(try simp(disch:=omega) only[go_sem,seval,hrl,hdl2,hsn2,hsd2, *]))))
      all_goals(refine ap mm hQ ?_)
      all_goals rw[HBN.out]
      all_goals exact⟨_,_,Wk.refl _,HF.out,rfl,rfl⟩
     ·by_cases hnz:dz<=nn
      ·have HBN:Hid (B=false):=u_ (by rw[<- HFB.out,<- hrb2];simp only[show ¬ (nn<dz) by omega,decide_false,Bool.false_and,Bool.and_false])
       clear hrb2
       (repeat'(first|refine Ctl ?_|(with_reducible first|(refine j_ hK ?_;clear hK hE K E)|(refine j_ hKh ?_;clear hKh Kh)|(refine j_ hKb (aL ?_);clear hKb Kb)|refine aq 10 [([0,1,2,3,4,5,6,7,8,9,10,11,12,13,14,15],16,[[6,7,8,9]])] [17,18] hQe fun K E hK hE=>?_)|((with_reducible refine aj (fun h=>?_) (fun h=>?_))<;>(try(exfalso;assumption)))|(((with_reducible first|refine ae fun K E hK hE=>?_|refine ak jP (w3 _) ?_|refine aE fun Kh hKh=>?_|refine aD fun Kh hKh=>?_|refine aM fun Kb hKb=>?_))<;>(try simp(disch:=omega) only[go_sem,seval,hrl,hdl2,hsn2,hsd2, *]))))
       all_goals(refine ap mm hQ ?_)
       all_goals rw[HBN.out]
       all_goals exact⟨_,_,Wk.refl _,HF.out,rfl,rfl⟩
      ·have HRB2:Hid (fw x.doms (dd.drop (q+1)) (r.drop (q+1))=RB):=u_ (by rw[<- hrb2];simp only[show 0<=nn by omega,show nn<dz by omega,decide_true,Bool.true_and])
       clear hrb2
       (repeat'(first|refine Ctl ?_|(with_reducible first|(refine j_ hK ?_;clear hK hE K E)|(refine j_ hKh ?_;clear hKh Kh)|(refine j_ hKb (aL ?_);clear hKb Kb)|refine aq 10 [([0,1,2,3,4,5,6,7,8,9,10,11,12,13,14,15],16,[[6,7,8,9]])] [17,18] hQe fun K E hK hE=>?_)|((with_reducible refine aj (fun h=>?_) (fun h=>?_))<;>(try(exfalso;assumption)))|(((with_reducible first|refine ae fun K E hK hE=>?_|refine ak jP (w3 _) ?_|refine aE fun Kh hKh=>?_|refine aD fun Kh hKh=>?_|refine aM fun Kb hKb=>?_))<;>(try simp(disch:=omega) only[go_sem,seval,hrl,hdl2,hsn2,hsd2, *]))))
       all_goals exact⟨m3 - 1,by omega,q+1,by omega,by omega,rfl,HRB2,ab,ab,ab,ab,ab,ab⟩
    ·obtain rfl:q=r.length:=by omega
     have hRBt:RB=true:=by rw[<- HRB.out,G_];cases List.drop r.length dd<;>rfl
     have HFB2:Hid (dC x.doms dd (fx trs (0+1)) (trs.drop (0+1))=B):=u_ (by rw[show fx trs (0+1)=some r from HR.out,<- HFB.out,hRBt];simp only[Bool.true_and])
     (repeat'(first|refine Ctl ?_|((with_reducible refine j_ hK ?_);clear hK hE K E)|((with_reducible refine aj (fun h=>?_) (fun h=>?_))<;>(try(exfalso;assumption)))|(((with_reducible refine ae fun K E hK hE=>?_))<;>(try simp(disch:=omega) only[go_sem,seval,hrl, *]))))
     exact⟨m - 1,by omega,0+1,by omega,by omega,rfl,HFB2,ab,ab,ab,ab⟩
   |succ j'=>
    obtain⟨rp,hrp⟩:∃rp,trs[j']?=some rp:=aN (by omega)
    have hsp:=dK hrp
    have hpl:=hrt.2 rp (p_ hrp)
    have wp:=fun s=>CT rp r .no .no (by omega) (by omega) s
    have hpv:fx trs (j'+1)=some rp:=hrp
    rw[hpv]at hfb
    simp only[hdB,<- jx]at hfb
    generalize eV rp r=LZ at *
    cases LZ with
    |true=>
     have HFB:Hid ((RB && dC x.doms dd (some r) (trs.drop (j'+1+1)))=B):=u_ (by rw[<- hfb];simp only[Bool.true_and])
     clear hfb hlen hrp hpv
     (repeat'(first|refine Ctl ?_|((with_reducible refine j_ hK ?_);clear hK hE K E)|((with_reducible refine aj (fun h=>?_) (fun h=>?_))<;>(try(exfalso;assumption)))|((first|(with_reducible first|refine ae fun K E hK hE=>?_|refine ak tT (wp _) ?_)|((with_reducible refine dy (fun h=>?_) (fun h=>?_))<;>(try(exfalso;omega))))<;>(try simp(disch:=omega) only[go_sem,seval,hrl0,hsr,hsp,hrl,hdl2,hlenT, *]))))
     refine bB (fun m3 env s3=>∃(q:Nat),q<=r.length/\m3+q=r.length/\S=s3/\Hid (fw x.doms (dd.drop q) (r.drop q)=RB)/\env 3=.ptr b3 0/\env 4=.ptr b4 0/\env 5=.ptr b5 0/\env 7=.int .i64 ((j'+1):Nat)/\env 8=.lst (aB r) .no/\env 9=.int .i64 q) r.length ?_ ?_
     ·exact⟨0,by omega,by omega,rfl,HRB,ab,ab,ab,ab,ab,ab⟩
     clear e3 e4 e5 e7 env HRB
     rintro m3 env s3 ⟨q,hq,hm3,he0,HRB,e3,e4,e5,e7,e8,e9⟩
     subst he0
     by_cases hltq:q<r.length
     ·obtain⟨nn,hnn⟩:=aN hltq
      obtain⟨dq,hdq⟩:∃dq,dd[q]?=some dq:=aN (by have:=hrld.out;omega)
      have hsn2:=cD hnn
      have hsd2:=dm hdq
      have hrb2:=HRB.out
      rw[mK hdq hnn]at hrb2
      have w3:=fun s=>w2 dq s
      generalize da x.doms dq=dz at *
      clear hnn hdq
      by_cases hn0:nn<0
      ·have HBN:Hid (B=false):=u_ (by rw[<- HFB.out,<- hrb2];simp only[show ¬ (0<=nn) by omega,decide_false,Bool.false_and])
       clear hrb2
       (repeat'(first|refine Ctl ?_|(with_reducible first|(refine j_ hK ?_;clear hK hE K E)|(refine j_ hKh ?_;clear hKh Kh)|(refine j_ hKb (aL ?_);clear hKb Kb)|refine aq 10 [([0,1,2,3,4,5,6,7,8,9,10,11,12,13,14,15],16,[[6,7,8,9]])] [17,18] hQe fun K E hK hE=>?_)|((with_reducible refine aj (fun h=>?_) (fun h=>?_))<;>(try(exfalso;assumption)))|(((with_reducible first|refine ae fun K E hK hE=>?_|refine aE fun Kh hKh=>?_|refine aD fun Kh hKh=>?_|refine aM fun Kb hKb=>?_))<;>(try simp(disch:=omega) only[go_sem,seval,hrl,hdl2,hsn2,hsd2, *]))))
       all_goals(refine ap mm hQ ?_)
       all_goals rw[HBN.out]
       all_goals exact⟨_,_,Wk.refl _,HF.out,rfl,rfl⟩
      ·by_cases hnz:dz<=nn
       ·have HBN:Hid (B=false):=u_ (by rw[<- HFB.out,<- hrb2];simp only[show ¬ (nn<dz) by omega,decide_false,Bool.false_and,Bool.and_false])
        clear hrb2
        (repeat'(first|refine Ctl ?_|(with_reducible first|(refine j_ hK ?_;clear hK hE K E)|(refine j_ hKh ?_;clear hKh Kh)|(refine j_ hKb (aL ?_);clear hKb Kb)|refine aq 10 [([0,1,2,3,4,5,6,7,8,9,10,11,12,13,14,15],16,[[6,7,8,9]])] [17,18] hQe fun K E hK hE=>?_)|((with_reducible refine aj (fun h=>?_) (fun h=>?_))<;>(try(exfalso;assumption)))|(((with_reducible first|refine ae fun K E hK hE=>?_|refine ak jP (w3 _) ?_|refine aE fun Kh hKh=>?_|refine aD fun Kh hKh=>?_|refine aM fun Kb hKb=>?_))<;>(try simp(disch:=omega) only[go_sem,seval,hrl,hdl2,hsn2,hsd2, *]))))
        all_goals(refine ap mm hQ ?_)
        all_goals rw[HBN.out]
        all_goals exact⟨_,_,Wk.refl _,HF.out,rfl,rfl⟩
       ·have HRB2:Hid (fw x.doms (dd.drop (q+1)) (r.drop (q+1))=RB):=u_ (by rw[<- hrb2];simp only[show 0<=nn by omega,show nn<dz by omega,decide_true,Bool.true_and])
        clear hrb2
        (repeat'(first|refine Ctl ?_|(with_reducible first|(refine j_ hK ?_;clear hK hE K E)|(refine j_ hKh ?_;clear hKh Kh)|(refine j_ hKb (aL ?_);clear hKb Kb)|refine aq 10 [([0,1,2,3,4,5,6,7,8,9,10,11,12,13,14,15],16,[[6,7,8,9]])] [17,18] hQe fun K E hK hE=>?_)|((with_reducible refine aj (fun h=>?_) (fun h=>?_))<;>(try(exfalso;assumption)))|(((with_reducible first|refine ae fun K E hK hE=>?_|refine ak jP (w3 _) ?_|refine aE fun Kh hKh=>?_|refine aD fun Kh hKh=>?_|refine aM fun Kb hKb=>?_))<;>(try simp(disch:=omega) only[go_sem,seval,hrl,hdl2,hsn2,hsd2, *]))))
        all_goals exact⟨m3 - 1,by omega,q+1,by omega,by omega,rfl,HRB2,ab,ab,ab,ab,ab,ab⟩
     ·obtain rfl:q=r.length:=by omega
      have hRBt:RB=true:=by rw[<- HRB.out,G_];cases List.drop r.length dd<;>rfl
      have HFB2:Hid (dC x.doms dd (fx trs ((j'+1)+1)) (trs.drop ((j'+1)+1))=B):=u_ (by rw[show fx trs ((j'+1)+1)=some r from HR.out,<- HFB.out,hRBt];simp only[Bool.true_and])
      (repeat'(first|refine Ctl ?_|((with_reducible refine j_ hK ?_);clear hK hE K E)|((with_reducible refine aj (fun h=>?_) (fun h=>?_))<;>(try(exfalso;assumption)))|(((with_reducible refine ae fun K E hK hE=>?_))<;>(try simp(disch:=omega) only[go_sem,seval,hrl, *]))))
      exact⟨m - 1,by omega,(j'+1)+1,by omega,by omega,rfl,HFB2,ab,ab,ab,ab⟩
    |false=>
     have HBN:Hid (B=false):=u_ (by rw[<- hfb];simp only[Bool.false_and])
     clear hfb hlen hrp hpv
     (repeat'(first|refine Ctl ?_|((with_reducible refine j_ hK ?_);clear hK hE K E)|((with_reducible refine aj (fun h=>?_) (fun h=>?_))<;>(try(exfalso;assumption)))|((first|(with_reducible first|refine ae fun K E hK hE=>?_|refine ak tT (wp _) ?_)|((with_reducible refine dy (fun h=>?_) (fun h=>?_))<;>(try(exfalso;omega))))<;>(try simp(disch:=omega) only[go_sem,seval,hrl0,hsr,hsp,hrl,hdl2,hlenT, *]))))
     all_goals(refine ap mm hQ ?_)
     all_goals rw[HBN.out]
     all_goals exact⟨_,_,Wk.refl _,HF.out,rfl,rfl⟩
  ·have HBN:Hid (B=false):=u_ (by rw[<- hfb];simp only[hlen,decide_false,Bool.false_and])
   have hlenT:((r.length:Int)=(dd.length:Int))=False:=eq_false (by omega)
   clear hfb hlen
   (repeat'(first|refine Ctl ?_|((with_reducible refine j_ hK ?_);clear hK hE K E)|((with_reducible refine aj (fun h=>?_) (fun h=>?_))<;>(try(exfalso;assumption)))|(((with_reducible refine ae fun K E hK hE=>?_))<;>(try simp(disch:=omega) only[go_sem,seval,hrl0,hsr,hrl,hdl2,hlenT, *]))))
   all_goals(refine ap mm hQ ?_)
   all_goals rw[HBN.out]
   all_goals exact⟨_,_,Wk.refl _,HF.out,rfl,rfl⟩
 ·obtain rfl:j=trs.length:=by omega
  have HBN:Hid (B=true):=u_ (by have:=HFB.out;rw[G_]at this;exact this.symm)
  (repeat'(first|refine Ctl ?_|((with_reducible refine j_ hK ?_);clear hK hE K E)|((with_reducible refine aj (fun h=>?_) (fun h=>?_))<;>(try(exfalso;assumption)))|(((with_reducible refine ae fun K E hK hE=>?_))<;>(try simp(disch:=omega) only[go_sem,seval,hrl0, *]))))
  all_goals(refine ap mm hQ ?_)
  all_goals rw[HBN.out]
  all_goals exact⟨_,_,Wk.refl _,HF.out,rfl,rfl⟩
attribute [local go_sem] aH aV cH
set_option maxHeartbeats 8000000 in
theorem uq (x:Pgm)(l:List Tbl)(oL:Own)(hx:PgmOk x)(hll:l.length<=1000000)(hrt:∀tb,tb∈l->tb.rs.length<=1000000/\∀r,r∈tb.rs->r.length<=1000000)(t:St) :
  SRet Tryz.prog 19 [.agg (pgC x),.lst (l.map aX) oL] t (.bool (cQ x [] l)) t:=by
 have w1:=fun n s=>lR x n hx.2.1 s
 have w2:=fun d tb (h1:d∈x.decls) (h2:tb∈l) s=>EF x d tb hx (hx.2.2.2.2.1 d h1).2.1 (hrt tb h2) s
 have hll1:(l.map aX).length=l.length:=by simp
 have hcl:(x.decls.map az).length=x.decls.length:=by simp
 have hcl2:=hx.2.1
 generalize hB:cQ x [] l=B
 have HB:Hid (cQ x ((l.take 0).map (·.nm)) (l.drop 0)=B):=u_ hB
 have W2:=u_ w2
 clear hB w2 hrt
 simp only[pgC]at w1 W2 ⊢
 refine aw Tryz.func19 rfl Tryz.ntmps19 rfl fun Q hQ hQe=>?_
 (repeat'(first|refine Ctl ?_|((with_reducible refine j_ hK ?_);clear hK hE K E)|((first|(with_reducible refine ae fun K E hK hE=>?_)|((with_reducible refine ao (fun b hb=>?_))))<;>(try simp(disch:=omega) only[go_sem,seval, *]))))
 obtain⟨b2,hb2⟩:∃z,z=b:=⟨_,rfl⟩
 subst hb2
 have q2:(t.set b2 (.obj 26 [.lst (x.doms.map dmC) .no,.lst (x.decls.map az) .no,.lst (x.rules.map ax) .no])) b2=.obj 26 [.lst (x.doms.map dmC) .no,.lst (x.decls.map az) .no,.lst (x.rules.map ax) .no]:=q_ _ _ _
 have HF:Hid (Fg (t.set b2 (.obj 26 [.lst (x.doms.map dmC) .no,.lst (x.decls.map az) .no,.lst (x.rules.map ax) .no])) t):=u_ (v_ _ hb)
 generalize t.set b2 (.obj 26 [.lst (x.doms.map dmC) .no,.lst (x.decls.map az) .no,.lst (x.rules.map ax) .no])=S at *
 clear hb
 refine bB (fun m env s'=>∃(i:Nat),i<=l.length/\m+i=l.length/\S=s'/\Hid (cQ x ((l.take i).map (·.nm)) (l.drop i)=B)/\env 1=.lst (l.map aX) oL/\env 2=.ptr b2 0/\env 5=.int .i64 i) l.length ?_ ?_
 ·exact⟨0,by omega,by omega,rfl,HB,ab,ab,ab⟩
 clear HB
 rintro m env s' ⟨i,hi,hm,he0,HB,e1,e2,e5⟩
 subst he0
 by_cases hlt:i<l.length
 ·obtain⟨tb,htb⟩:=aN hlt
  have hst:=dZ htb
  have hBd:=HB.out
  have hdr:l.drop i=tb::l.drop (i+1):=by
   obtain⟨h1,rfl⟩:=n_.1 htb
   exact g_ h1
  rw[hdr]at hBd
  simp only[cQ]at hBd
  have HTB:=u_ htb
  have w3:=w1 tb.nm
  obtain⟨tn,trs⟩:=tb
  simp only[aX]at hst
  simp only at hBd w3
  clear hdr HB htb
  cases hk:cO x.decls tn with
  |none=>
   rw[show eI x.decls tn=-1 by unfold eI;rw[hk]]at w3
   rw[hk]at hBd
   simp only at hBd
   have HBN:Hid (B=false):=u_ hBd.symm
   clear hBd hk
   (repeat'(first|refine Ctl ?_|(with_reducible first|(refine j_ hK ?_;clear hK hE K E)|(refine j_ hKh ?_;clear hKh Kh)|(refine j_ hKb (aL ?_);clear hKb Kb)|refine aq 4 [([0,1,2,3,4,5],6,[[]])] [7] hQe fun K E hK hE=>?_|refine aq 5 [([0,1,2,3,4,5,6,7,8,9,10,11,12],13,[[]])] [14,15] hQe fun K E hK hE=>?_)|((with_reducible refine aj (fun h=>?_) (fun h=>?_))<;>(try(exfalso;assumption)))|(((with_reducible first|refine ae fun K E hK hE=>?_|refine ak fm (w3 _) ?_|refine aE fun Kh hKh=>?_|refine aD fun Kh hKh=>?_|refine aM fun Kb hKb=>?_))<;>(try simp(disch:=omega) only[go_sem,seval, *]))))
   all_goals(refine ap sW hQ ?_)
   all_goals rw[HBN.out]
   all_goals exact⟨_,_,Wk.refl _,HF.out,rfl,rfl⟩
  |some k=>
   rw[show eI x.decls tn=(k:Int) by unfold eI;rw[hk]]at w3
   have hkd:=cI (show ixT tn (x.decls.map (·.name))=some k from hk)
   rw[c_]at hkd
   obtain⟨d,hd1,hd2⟩:=Option.map_eq_some_iff.1 hkd
   rw[hk]at hBd
   simp only[hd1]at hBd
   have hsd:=dp hd1
   have hkl:k<x.decls.length:=(n_.1 hd1).1
   have w4:=W2.out d ⟨tn,trs⟩ (p_ hd1) (p_ HTB.out)
   obtain⟨dn,dd⟩:=d
   simp only[az]at hsd w4
   simp only[aX]at w4
   generalize dC x.doms dd none trs=FB at *
   clear hk hkd hd1 hd2
   cases FB with
   |false=>
    have HBN:Hid (B=false):=u_ (by rw[<- hBd];simp only[Bool.and_false,Bool.false_and])
    clear hBd
    (repeat'(first|refine Ctl ?_|(with_reducible first|(refine j_ hK ?_;clear hK hE K E)|(refine j_ hKh ?_;clear hKh Kh)|(refine j_ hKb (aL ?_);clear hKb Kb)|refine aq 4 [([0,1,2,3,4,5],6,[[]])] [7] hQe fun K E hK hE=>?_|refine aq 5 [([0,1,2,3,4,5,6,7,8,9,10,11,12],13,[[]])] [14,15] hQe fun K E hK hE=>?_)|((with_reducible refine aj (fun h=>?_) (fun h=>?_))<;>(try(exfalso;assumption)))|((first|(with_reducible first|refine ae fun K E hK hE=>?_|refine ak fm (w3 _) ?_|refine ak Fp (w4 _) ?_|refine aE fun Kh hKh=>?_|refine aD fun Kh hKh=>?_|refine aM fun Kb hKb=>?_)|((with_reducible refine dy (fun h=>?_) (fun h=>?_))<;>(try(exfalso;omega))))<;>(try simp(disch:=omega) only[go_sem,seval, *]))))
    all_goals(refine ap sW hQ ?_)
    all_goals rw[HBN.out]
    all_goals exact⟨_,_,Wk.refl _,HF.out,rfl,rfl⟩
   |true=>
    have HBD:=u_ hBd
    clear hBd
    (repeat'(first|refine Ctl ?_|(with_reducible first|(refine j_ hK ?_;clear hK hE K E)|(refine j_ hKh ?_;clear hKh Kh)|(refine j_ hKb (aL ?_);clear hKb Kb)|refine aq 4 [([0,1,2,3,4,5],6,[[]])] [7] hQe fun K E hK hE=>?_|refine aq 5 [([0,1,2,3,4,5,6,7,8,9,10,11,12],13,[[]])] [14,15] hQe fun K E hK hE=>?_)|((with_reducible refine aj (fun h=>?_) (fun h=>?_))<;>(try(exfalso;assumption)))|((first|(with_reducible first|refine ae fun K E hK hE=>?_|refine ak fm (w3 _) ?_|refine ak Fp (w4 _) ?_|refine aE fun Kh hKh=>?_|refine aD fun Kh hKh=>?_|refine aM fun Kb hKb=>?_)|((with_reducible refine dy (fun h=>?_) (fun h=>?_))<;>(try(exfalso;omega))))<;>(try simp(disch:=omega) only[go_sem,seval, *]))))
    refine bB (fun m2 env s2=>∃(j:Nat),j<=i/\m2+j=i/\S=s2/\Hid (tn∉(l.take j).map (·.nm))/\env 1=.lst (l.map aX) oL/\env 2=.ptr b2 0/\env 5=.int .i64 i/\env 7=.int .i64 j) i ?_ ?_
    ·exact⟨0,by omega,by omega,rfl,u_ (by simp),ab,ab,ab,ab⟩
    clear e1 e2 e5 env
    rintro m2 env s2 ⟨j,hj,hm2,he0,HNI,e1,e2,e5,e7⟩
    subst he0
    by_cases hltj:j<i
    ·obtain⟨tj,htj⟩:∃tj,l[j]?=some tj:=aN (by omega)
     have hsj:=dZ htj
     have HTJ:=u_ htj
     obtain⟨tjn,tjr⟩:=tj
     simp only[aX]at hsj
     clear htj
     by_cases hen:tjn=tn
     ·have HBN:Hid (B=false):=u_ (by
       have hmem:tn∈(l.take i).map (·.nm):=E_.2 ⟨⟨tjn,tjr⟩,p_ (by rw[List.getElem?_take_of_lt hltj];exact HTJ.out),hen⟩
       rw[<- HBD.out,decide_eq_true hmem]
       rfl)
      subst hen
      (repeat'(first|refine Ctl ?_|(with_reducible first|(refine j_ hK ?_;clear hK hE K E)|(refine j_ hKh ?_;clear hKh Kh)|refine aq 10 [] [0,1,2,3,4,5,6,7,8,9,10] hQe fun K E hK hE=>?_)|((with_reducible refine aj (fun h=>?_) (fun h=>?_))<;>(try(exfalso;assumption)))|(((with_reducible first|refine ae fun K E hK hE=>?_|refine aD fun Kh hKh=>?_))<;>(try simp(disch:=omega) only[go_sem,seval, *]))))
      all_goals(refine ap sW hQ ?_)
      all_goals rw[HBN.out]
      all_goals exact⟨_,_,Wk.refl _,HF.out,rfl,rfl⟩
     ·have HNI2:Hid (tn∉(l.take (j+1)).map (·.nm)):=u_ (by
       rw[bY HTJ.out,List.map_append,l_]
       rintro(h|h)
       ·exact HNI.out h
       ·simp at h;exact hen h.symm)
      (repeat'(first|refine Ctl ?_|(with_reducible first|(refine j_ hK ?_;clear hK hE K E)|(refine j_ hKh ?_;clear hKh Kh)|refine aq 10 [] [0,1,2,3,4,5,6,7,8,9,10] hQe fun K E hK hE=>?_)|((with_reducible refine aj (fun h=>?_) (fun h=>?_))<;>(try(exfalso;assumption)))|(((with_reducible first|refine ae fun K E hK hE=>?_|refine aD fun Kh hKh=>?_))<;>(try simp(disch:=omega) only[go_sem,seval, *]))))
      all_goals exact⟨m2 - 1,by omega,j+1,by omega,by omega,rfl,HNI2,ab,ab,ab,ab⟩
    ·obtain rfl:j=i:=by omega
     have HB2:Hid (cQ x ((l.take (j+1)).map (·.nm)) (l.drop (j+1))=B):=u_ (by
      rw[bY HTB.out,List.map_append,<- HBD.out,decide_eq_false HNI.out]
      rfl)
     (repeat'(first|refine Ctl ?_|((with_reducible refine j_ hK ?_);clear hK hE K E)|((with_reducible refine aj (fun h=>?_) (fun h=>?_))<;>(try(exfalso;assumption)))|(((with_reducible refine ae fun K E hK hE=>?_))<;>(try simp(disch:=omega) only[go_sem,seval, *]))))
     exact⟨m - 1,by omega,j+1,by omega,by omega,rfl,HB2,ab,ab,ab⟩
 ·obtain rfl:i=l.length:=by omega
  have HBN:Hid (B=true):=u_ (by have:=HB.out;rw[G_]at this;exact this.symm)
  (repeat'(first|refine Ctl ?_|((with_reducible refine j_ hK ?_);clear hK hE K E)|((with_reducible refine aj (fun h=>?_) (fun h=>?_))<;>(try(exfalso;assumption)))|(((with_reducible refine ae fun K E hK hE=>?_))<;>(try simp(disch:=omega) only[go_sem,seval, *]))))
  all_goals(refine ap sW hQ ?_)
  all_goals rw[HBN.out]
  all_goals exact⟨_,_,Wk.refl _,HF.out,rfl,rfl⟩
theorem nr {l:List Tbl}:∀y,y∈l.map aX->y.length=2:=fun y hy=>by
 obtain⟨q,_,rfl⟩:=E_.1 hy
 rfl
theorem BA {l:List Tbl}{k:Nat}{y:Tbl}{rs:List (List Int)}(h:l[k]?=some y):splice ((l.map aX).flatten) (k*2+1) [.lst (aF rs) .no]=((l.set k ⟨y.nm,rs⟩).map aX).flatten:=by
 induction l generalizing k with
 |nil=>simp at h
 |cons a l ih=>
  cases k with
  |zero=>
   simp only[List.getElem?_cons_zero,Option.some.injEq]at h
   subst h
   rfl
  |succ k=>
   have h':l[k]?=some y:=by simpa using h
   have:=ih h'
   simp only[List.map_cons,List.flatten_cons,List.set_cons_succ]at this ⊢
   rw[<- this,show (k+1)*2+1=(k*2+1)+1+1 by omega]
   rfl
set_option maxHeartbeats 8000000 in
theorem ED (l:List Tbl)(oL:Own)(k:Nat)(y:Tbl)(r:List Int)(hl:l.length<=1000000)(hk:l[k]?=some y)(hy:iv y.rs)(hr:r.length<=1000000000)(t:St) :
  SRet Tryz.prog 55 [.lst (l.map aX) oL,.int .i64 (k:Int),.lst (aB r) .no] t (.lst ((l.set k ⟨y.nm,putRow y.rs r⟩).map aX) .no) t:=by
 have hll1:(l.map aX).length=l.length:=by simp
 have hsy:=dZ hk
 have hkl:k<l.length:=(n_.1 hk).1
 have w1:=fun s=>ux y.rs r .no hy hr s
 have hfl:(l.map aX).flatten.length=l.length*2:=by rw[fI nr,a_]
 have hne:l.map aX≠[]:=fun h=>by rw[h]at hll1;simp at hll1;omega
 have h2y:=nr (l:=l)
 have hput:=BA (rs:=putRow y.rs r) hk
 have HL2:Hid (((l.set k ⟨y.nm,putRow y.rs r⟩).map aX).length=l.length):=u_ (by simp)
 simp only[aX]at hsy
 refine aw Tryz.func55 rfl Tryz.ntmps55 rfl fun Q hQ hQe=>?_
 simp only[splice,List.length_cons,List.length_nil]at hput
 (repeat'(first|(first|(with_reducible refine lU 2 7 ?_)|(with_reducible refine CW 4 ?_))|refine Ctl ?_|((with_reducible refine j_ hK ?_);clear hK hE K E)|((first|(with_reducible first|refine ae fun K E hK hE=>?_|refine ak Fk (w1 _) ?_|refine gT ?_)|((with_reducible refine oX (fun bM hM=>?_))))<;>(try simp(disch:=omega) only[go_sem,seval, *]))))
 unfold Ev
 refine yj 7 bM l.length (q_ _ _ _) (ab) HL2.out nr ?_
 rw[St.set_set,x_ _ _ _ hM]
 (repeat'(first|refine Ctl ?_|((with_reducible refine j_ hK ?_);clear hK hE K E)|(((with_reducible refine ae fun K E hK hE=>?_))<;>(try simp(disch:=omega) only[go_sem,seval, *]))))
 all_goals(refine ap E0 hQ ?_)
 all_goals exact⟨_,_,Wk.refl _,Fg.refl _,rfl,rfl⟩
def eQ (x:Pgm)(g:List Tbl):List Tbl:=x.decls.map fun d=>⟨d.name,aW g d.name⟩
theorem tm {Y:List (List VV)}{a z z2:VV}(h:∀y,y∈Y->y.length=2):(Y++[[a,z]]).flatten.take (Y.length*2+1)++[z2]++(Y++[[a,z]]).flatten.drop (Y.length*2+1+(0+1))=(Y++[[a,z2]]).flatten:=by
 have hl:=fI h
 simp only[List.flatten_append,List.flatten_cons,List.flatten_nil,List.append_nil]
 rw[List.take_append,List.drop_append,hl,B_ (by omega),List.drop_of_length_le (by omega)]
 rw[show Y.length*2+1 - Y.length*2=1 by omega,show Y.length*2+1+(0+1) - Y.length*2=2 by omega]
 simp
def BgOk (x:Pgm)(g:List Tbl)(Y:List (List VV)):Prop:=∀(j:Nat) (y:List VV),Y[j]?=some y->∃d o,x.decls[j]?=some d/\y=[.str d.name,.lst (aF (aW g d.name)) o]
theorem BgOk.two {x:Pgm}{g:List Tbl}{Y:List (List VV)}(h:BgOk x g Y):∀y,y∈Y->y.length=2:=fun y hy=>by
 obtain⟨j,hj⟩:=h_.1 hy
 obtain⟨d,o,_,rfl⟩:=h j y hj
 rfl
set_option maxHeartbeats 8000000 in
theorem CM (x:Pgm)(g:List Tbl)(oL:Own)(hx:PgmOk x)(hdl:x.decls.length<=100000)(hgl:g.length<=100000)(hg:(g.map (·.nm)).Nodup)(t:St) :
  SRet Tryz.prog 53 [.agg (pgC x),.lst (g.map aX) oL] t (.lst ((eQ x g).map aX) .no) t:=by
 have hgl1:(g.map aX).length=g.length:=by simp
 have hcl:(x.decls.map az).length=x.decls.length:=by simp
 have HG:=u_ hg
 clear hg
 simp only[pgC]
 refine aw Tryz.func53 rfl Tryz.ntmps53 rfl fun Q hQ hQe=>?_
 (repeat'(first|(with_reducible refine lU 2 5 ?_)|refine Ctl ?_|((with_reducible refine j_ hK ?_);clear hK hE K E)|((first|(with_reducible refine ae fun K E hK hE=>?_)|((with_reducible refine ao (fun b hb=>?_))))<;>(try simp(disch:=omega) only[go_sem,seval, *]))))
 obtain⟨b2,hb2⟩:∃z,z=b:=⟨_,rfl⟩
 subst hb2
 have q2:(t.set b2 (.obj 26 [.lst (x.doms.map dmC) .no,.lst (x.decls.map az) .no,.lst (x.rules.map ax) .no])) b2=.obj 26 [.lst (x.doms.map dmC) .no,.lst (x.decls.map az) .no,.lst (x.rules.map ax) .no]:=q_ _ _ _
 have HF:Hid (Fg (t.set b2 (.obj 26 [.lst (x.doms.map dmC) .no,.lst (x.decls.map az) .no,.lst (x.rules.map ax) .no])) t):=u_ (v_ _ hb)
 generalize t.set b2 (.obj 26 [.lst (x.doms.map dmC) .no,.lst (x.decls.map az) .no,.lst (x.rules.map ax) .no])=S at *
 have l2:S b2≠.free:=by rw[q2];simp
 clear hb
 refine bB (fun m env s'=>∃(i:Nat) (Y:List (List VV)) (gb:Nat),i<=x.decls.length/\m+i=x.decls.length/\Y.length=i/\Hid (BgOk x g Y)/\((i=0/\s'=S/\env 5=.raw (.slice none 0 0))\/(0<i/\S gb=.free/\s'=S.set gb (.row 46 2 Y.flatten)/\env 5=.mrw gb i))/\env 1=.lst (g.map aX) oL/\env 2=.ptr b2 0/\env 6=.int .i64 i) x.decls.length ?_ ?_
 ·exact⟨0,[],0,by omega,by omega,rfl,u_ (fun j y hj=>by simp at hj),.inl ⟨rfl,rfl,ab⟩,ab,ab,ab⟩
 rintro m env s' ⟨i,Y,gb,hi,hm,hYl,HY,hcase,e1,e2,e6⟩
 have hY2:=HY.out.two
 have hYfl:=fI hY2
 by_cases hlt:i<x.decls.length
 ·obtain⟨d,hd⟩:=aN hlt
  have hsd:=dp hd
  have HD:=u_ hd
  obtain⟨dn,dd⟩:=d
  simp only[az]at hsd
  clear hd
  rcases hcase with ⟨h0,rfl,e5⟩|⟨h0,hgb,rfl,e5⟩
  ·have hYn:Y=[]:=t_ (by omega)
   have HYN:=u_ hYn
   clear hYn
   subst h0
   (repeat'(first|refine Ctl ?_|((with_reducible refine j_ hK ?_);clear hK hE K E)|((with_reducible refine aj (fun h=>?_) (fun h=>?_))<;>(try(exfalso;omega)))|((first|(with_reducible refine ae fun K E hK hE=>?_)|((with_reducible refine oX (fun bM hM=>?_))))<;>(try simp(disch:=omega) only[go_sem,seval, *]))))
   have hst:s'.set bM (.row 46 2 [[VV.str dn,VV.lst [] .full]].flatten)=s'.set bM (.row 46 2 (Y++[[VV.str dn,.lst (aF (aW (g.take 0) dn)) .full]]).flatten):=by rw[HYN.out];rfl
   rw[hst]
   clear hst
   have hn2:¬ b2=bM:=fun e=>l2 (e ▸ hM)
   have HM:=u_ hM
   refine bB (fun m2 env s2=>∃(k:Nat) (o:Own),k<=g.length/\m2+k=g.length/\s2=s'.set bM (.row 46 2 (Y++[[VV.str dn,.lst (aF (aW (g.take k) dn)) o]]).flatten)/\env 1=.lst (g.map aX) oL/\env 2=.ptr b2 0/\env 6=.int .i64 (0:Nat)/\env 5=.mrw bM (0+1)/\env 7=.int .i64 k) g.length ?_ ?_
   ·exact⟨0,.full,by omega,by omega,rfl,ab,ab,ab,ab,ab⟩
   clear e1 e2 e5 e6 env hM
   rintro m2 env s2 ⟨k,o,hk,hm2,rfl,e1,e2,e6,e5,e7⟩
   have hYY:(Y++[[VV.str dn,.lst (aF (aW (g.take k) dn)) o]]).flatten.length=0*2+2:=by rw[List.flatten_append,d_,hYfl,hYl];rfl
   by_cases hltk:k<g.length
   ·obtain⟨tb,htb⟩:=aN hltk
    have hst:=dZ htb
    have hnt:=gj htb (by
     intro h
     obtain⟨tt,h1,h2⟩:=E_.1 h
     obtain⟨jj,hjj⟩:=h_.1 h1
     have hjk:jj<k:=by have:=(n_.1 hjj).1;rw[A_]at this;omega
     rw[List.getElem?_take_of_lt hjk]at hjj
     have e1:(g.map (·.nm))[jj]?=some tb.nm:=by rw[c_,hjj];exact congrArg some h2
     have e2:(g.map (·.nm))[k]?=some tb.nm:=by rw[c_,htb];rfl
     have e3:=gz HG.out e1
     rw[gz HG.out e2]at e3
     injection e3 with e3
     omega) dn
    have HNT:=u_ hnt
    have hput:=tm (Y:=Y) (a:=VV.str dn) (z:=.lst (aF (aW (g.take k) dn)) o) (z2:=.lst (aF tb.rs) .no) HY.out.two
    rw[hYl]at hput
    obtain⟨tn,trs⟩:=tb
    simp only[aX]at hst
    simp only at HNT hput
    clear htb hnt
    by_cases hen:tn=dn
    ·have HN2:Hid (aW (g.take (k+1)) dn=trs):=u_ (by rw[HNT.out,if_pos hen])
     clear HNT
     subst hen
     generalize (Y++[[VV.str tn,.lst (aF (aW (g.take k) tn)) o]]).flatten=FL at *
     (repeat'(first|refine Ctl ?_|(with_reducible first|(refine j_ hK ?_;clear hK hE K E)|(refine j_ hKh ?_;clear hKh Kh)|refine aq 9 [] [0,1,2,3,4,5,6,7,8,9,10,11] hQe fun K E hK hE=>?_)|((with_reducible refine aj (fun h=>?_) (fun h=>?_))<;>(try(exfalso;assumption)))|(((with_reducible first|refine ae fun K E hK hE=>?_|refine aD fun Kh hKh=>?_))<;>(try simp(disch:=omega) only[go_sem,seval, *]))))
     exact⟨m2 - 1,by omega,k+1,.no,by omega,by omega,by rw[HN2.out],ab,ab,ab,ab,ab⟩
    ·have HN2:Hid (aW (g.take (k+1)) dn=aW (g.take k) dn):=u_ (by rw[HNT.out,if_neg hen])
     clear HNT hput
     generalize hFL:(Y++[[VV.str dn,.lst (aF (aW (g.take k) dn)) o]]).flatten=FL at *
     have HFL:=u_ hFL
     clear hFL
     (repeat'(first|refine Ctl ?_|(with_reducible first|(refine j_ hK ?_;clear hK hE K E)|(refine j_ hKh ?_;clear hKh Kh)|refine aq 9 [] [0,1,2,3,4,5,6,7,8,9,10,11] hQe fun K E hK hE=>?_)|((with_reducible refine aj (fun h=>?_) (fun h=>?_))<;>(try(exfalso;assumption)))|(((with_reducible first|refine ae fun K E hK hE=>?_|refine aD fun Kh hKh=>?_))<;>(try simp(disch:=omega) only[go_sem,seval, *]))))
     exact⟨m2 - 1,by omega,k+1,o,by omega,by omega,by rw[HN2.out,HFL.out],ab,ab,ab,ab,ab⟩
   ·obtain rfl:k=g.length:=by omega
    have HY2:Hid (BgOk x g (Y++[[VV.str dn,.lst (aF (aW (g.take g.length) dn)) o]])):=u_ fun j y hj=>by
     by_cases e:j<Y.length
     ·rw[o_ e]at hj;exact HY.out j y hj
     ·have ej:j=Y.length:=by have:=(n_.1 hj).1;rw[d_,List.length_singleton]at this;omega
      subst ej
      rw[r_ (Nat.le_refl _),Nat.sub_self]at hj
      simp only[List.getElem?_cons_zero,Option.some.injEq]at hj
      exact⟨_,o,by rw[hYl];exact HD.out,by rw[<- hj,f_]⟩
    generalize (Y++[[VV.str dn,.lst (aF (aW (g.take g.length) dn)) o]])=Y2 at *
    have hY2l:Y2.length=0+1:=by have:=fI HY2.out.two;omega
    clear hYY
    (repeat'(first|refine Ctl ?_|((with_reducible refine j_ hK ?_);clear hK hE K E)|((with_reducible refine aj (fun h=>?_) (fun h=>?_))<;>(try(exfalso;assumption)))|(((with_reducible refine ae fun K E hK hE=>?_))<;>(try simp(disch:=omega) only[go_sem,seval, *]))))
    exact⟨m - 1,by omega,0+1,Y2,bM,by omega,by omega,hY2l,HY2,.inr ⟨by omega,HM.out,rfl,ab⟩,ab,ab,ab⟩
  ·have hn2g:¬ b2=gb:=fun e=>l2 (e ▸ hgb)
   have hYf2:Y.flatten.length=i*2:=by rw[hYfl,hYl]
   (repeat'(first|refine Ctl ?_|((with_reducible refine j_ hK ?_);clear hK hE K E)|((with_reducible refine aj (fun h=>?_) (fun h=>?_))<;>(try(exfalso;assumption)))|((first|(with_reducible refine ae fun K E hK hE=>?_)|((with_reducible refine vX (fun bM hM=>?_))))<;>(try simp(disch:=omega) only[go_sem,seval, *]))))
   rw[show S.set bM (.row 46 2 (Y.flatten++[[VV.str dn,VV.lst [] .full]].flatten))=S.set bM (.row 46 2 (Y++[[VV.str dn,.lst (aF (aW (g.take 0) dn)) .full]]).flatten) by rw[List.flatten_append];rfl]
   clear hYf2
   have hn2:¬ b2=bM:=fun e=>l2 (e ▸ hM)
   have HM:=u_ hM
   refine bB (fun m2 env s2=>∃(k:Nat) (o:Own),k<=g.length/\m2+k=g.length/\s2=S.set bM (.row 46 2 (Y++[[VV.str dn,.lst (aF (aW (g.take k) dn)) o]]).flatten)/\env 1=.lst (g.map aX) oL/\env 2=.ptr b2 0/\env 6=.int .i64 (i:Nat)/\env 5=.mrw bM (i+1)/\env 7=.int .i64 k) g.length ?_ ?_
   ·exact⟨0,.full,by omega,by omega,rfl,ab,ab,ab,ab,ab⟩
   clear e1 e2 e5 e6 env hM
   rintro m2 env s2 ⟨k,o,hk,hm2,rfl,e1,e2,e6,e5,e7⟩
   have hYY:(Y++[[VV.str dn,.lst (aF (aW (g.take k) dn)) o]]).flatten.length=i*2+2:=by rw[List.flatten_append,d_,hYfl,hYl];rfl
   by_cases hltk:k<g.length
   ·obtain⟨tb,htb⟩:=aN hltk
    have hst:=dZ htb
    have hnt:=gj htb (by
     intro h
     obtain⟨tt,h1,h2⟩:=E_.1 h
     obtain⟨jj,hjj⟩:=h_.1 h1
     have hjk:jj<k:=by have:=(n_.1 hjj).1;rw[A_]at this;omega
     rw[List.getElem?_take_of_lt hjk]at hjj
     have e1:(g.map (·.nm))[jj]?=some tb.nm:=by rw[c_,hjj];exact congrArg some h2
     have e2:(g.map (·.nm))[k]?=some tb.nm:=by rw[c_,htb];rfl
     have e3:=gz HG.out e1
     rw[gz HG.out e2]at e3
     injection e3 with e3
     omega) dn
    have HNT:=u_ hnt
    have hput:=tm (Y:=Y) (a:=VV.str dn) (z:=.lst (aF (aW (g.take k) dn)) o) (z2:=.lst (aF tb.rs) .no) HY.out.two
    rw[hYl]at hput
    obtain⟨tn,trs⟩:=tb
    simp only[aX]at hst
    simp only at HNT hput
    clear htb hnt
    by_cases hen:tn=dn
    ·have HN2:Hid (aW (g.take (k+1)) dn=trs):=u_ (by rw[HNT.out,if_pos hen])
     clear HNT
     subst hen
     generalize (Y++[[VV.str tn,.lst (aF (aW (g.take k) tn)) o]]).flatten=FL at *
     (repeat'(first|refine Ctl ?_|(with_reducible first|(refine j_ hK ?_;clear hK hE K E)|(refine j_ hKh ?_;clear hKh Kh)|refine aq 9 [] [0,1,2,3,4,5,6,7,8,9,10,11] hQe fun K E hK hE=>?_)|((with_reducible refine aj (fun h=>?_) (fun h=>?_))<;>(try(exfalso;assumption)))|(((with_reducible first|refine ae fun K E hK hE=>?_|refine gh ?_|refine gT ?_|refine aD fun Kh hKh=>?_))<;>(try simp(disch:=omega) only[go_sem,seval, *]))))
     exact⟨m2 - 1,by omega,k+1,.no,by omega,by omega,by rw[HN2.out],ab,ab,ab,ab,ab⟩
    ·have HN2:Hid (aW (g.take (k+1)) dn=aW (g.take k) dn):=u_ (by rw[HNT.out,if_neg hen])
     clear HNT hput
     generalize hFL:(Y++[[VV.str dn,.lst (aF (aW (g.take k) dn)) o]]).flatten=FL at *
     have HFL:=u_ hFL
     clear hFL
     (repeat'(first|refine Ctl ?_|(with_reducible first|(refine j_ hK ?_;clear hK hE K E)|(refine j_ hKh ?_;clear hKh Kh)|refine aq 9 [] [0,1,2,3,4,5,6,7,8,9,10,11] hQe fun K E hK hE=>?_)|((with_reducible refine aj (fun h=>?_) (fun h=>?_))<;>(try(exfalso;assumption)))|(((with_reducible first|refine ae fun K E hK hE=>?_|refine aD fun Kh hKh=>?_))<;>(try simp(disch:=omega) only[go_sem,seval, *]))))
     exact⟨m2 - 1,by omega,k+1,o,by omega,by omega,by rw[HN2.out,HFL.out],ab,ab,ab,ab,ab⟩
   ·obtain rfl:k=g.length:=by omega
    have HY2:Hid (BgOk x g (Y++[[VV.str dn,.lst (aF (aW (g.take g.length) dn)) o]])):=u_ fun j y hj=>by
     by_cases e:j<Y.length
     ·rw[o_ e]at hj;exact HY.out j y hj
     ·have ej:j=Y.length:=by have:=(n_.1 hj).1;rw[d_,List.length_singleton]at this;omega
      subst ej
      rw[r_ (Nat.le_refl _),Nat.sub_self]at hj
      simp only[List.getElem?_cons_zero,Option.some.injEq]at hj
      exact⟨_,o,by rw[hYl];exact HD.out,by rw[<- hj,f_]⟩
    generalize (Y++[[VV.str dn,.lst (aF (aW (g.take g.length) dn)) o]])=Y2 at *
    have hY2l:Y2.length=i+1:=by have:=fI HY2.out.two;omega
    clear hYY
    (repeat'(first|refine Ctl ?_|((with_reducible refine j_ hK ?_);clear hK hE K E)|((with_reducible refine aj (fun h=>?_) (fun h=>?_))<;>(try(exfalso;assumption)))|(((with_reducible refine ae fun K E hK hE=>?_))<;>(try simp(disch:=omega) only[go_sem,seval, *]))))
    exact⟨m - 1,by omega,i+1,Y2,bM,by omega,by omega,hY2l,HY2,.inr ⟨by omega,HM.out,rfl,ab⟩,ab,ab,ab⟩
 ·obtain rfl:i=x.decls.length:=by omega
  have hwk:∀(j:Nat) (y:List VV),((eQ x g).map aX)[j]?=some y->∃z,Y[j]?=some z/\WkL z y:=fun j y hj=>by
   unfold eQ at hj
   rw[List.map_map,c_]at hj
   obtain⟨d,hd,rfl⟩:=Option.map_eq_some_iff.1 hj
   obtain⟨z,hz⟩:∃z,Y[j]?=some z:=aN (by rw[hYl];exact(n_.1 hd).1)
   obtain⟨d',o,hd',rfl⟩:=HY.out j z hz
   rw[hd]at hd'
   injection hd' with hd'
   subst hd'
   exact⟨_,hz,.same _ (.lst _ _ .nil)⟩
  have hbl:((eQ x g).map aX).length=Y.length:=by rw[hYl];simp[eQ]
  have HWK:Hid (Wk (.lst Y .no) (.lst ((eQ x g).map aX) .no)):=u_ (Wk.rows hbl hwk)
  clear hwk hbl
  rcases hcase with ⟨h0,rfl,e5⟩|⟨h0,hgb,rfl,e5⟩
  ·have hYn:Y=[]:=t_ (by omega)
   subst hYn
   refine lT 5 (y:=.lst [] .no) e5 pr ?_
   (repeat'(first|refine Ctl ?_|((with_reducible refine j_ hK ?_);clear hK hE K E)|((with_reducible refine aj (fun h=>?_) (fun h=>?_))<;>(try(exfalso;assumption)))|(((with_reducible refine ae fun K E hK hE=>?_))<;>(try simp(disch:=omega) only[go_sem,seval, *]))))
   all_goals(refine ap AD hQ ?_)
   all_goals exact⟨_,_,HWK.out,HF.out,rfl,rfl⟩
  ·refine yj 5 gb x.decls.length (q_ _ _ _) e5 hYl hY2 ?_
   rw[St.set_set,x_ _ _ _ hgb]
   (repeat'(first|refine Ctl ?_|((with_reducible refine j_ hK ?_);clear hK hE K E)|((with_reducible refine aj (fun h=>?_) (fun h=>?_))<;>(try(exfalso;assumption)))|(((with_reducible refine ae fun K E hK hE=>?_))<;>(try simp(disch:=omega) only[go_sem,seval, *]))))
   all_goals(refine ap AD hQ ?_)
   all_goals exact⟨_,_,HWK.out,HF.out,rfl,rfl⟩
end Go.Proofs.YteldpmgepfaiiaaGreatDoor
