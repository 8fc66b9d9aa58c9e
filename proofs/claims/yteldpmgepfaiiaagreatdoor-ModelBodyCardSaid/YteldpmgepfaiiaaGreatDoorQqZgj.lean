/- Walks of functions that the claim reaches, and plain facts of them. Conditions: those in the statements. -/
import Derived.Test.YteldpmgepfaiiaaGreatDoorQqZcj
import Derived.Test.YteldpmgepfaiiaaGreatDoorQqWxj
import Derived.Test.YteldpmgepfaiiaaGreatDoorQqXij
set_option linter.unusedSimpArgs false
set_option linter.unusedVariables false
set_option maxRecDepth 100000
namespace Go.Proofs.YteldpmgepfaiiaaGreatDoor
open Go.RowKit
section
variable {w0 w : World} {G : Gh} {s : St} {b g i n sz : Nat} {T : TypeId} {xs : List VV}
end
set_option maxHeartbeats 8000000 in
theorem Dh (x:Pgm)(d:Dcl)(tb:Tbl)(hx:PgmOk x)(hdl:d.doms.length≤140737488355328)(hrt:tb.rs.length≤1000000∧∀r,r∈tb.rs→r.length≤1000000)(t:St) :
  SRet Tryz.prog 42 [.agg (pgC x),.agg (aB d),.agg (aZ tb)] t (.bool (dt x.doms d.doms none tb.rs)) t:=by
 have w2:=fun n s=>uM x n hx.1 s
 obtain⟨dn,dd⟩:=d
 obtain⟨tn,trs⟩:=tb
 simp only at hdl hrt ⊢
 generalize hB:dt x.doms dd none trs=B
 have HB:Hid (dt x.doms dd (ff trs 0) (trs.drop 0)=B):=Lib.hid hB
 have hrl0:(aD trs).length=trs.length:=cL
 clear hB
 simp only[pgC,aB,aZ]at w2 ⊢
 refine av Tryz.func42 rfl Tryz.ntmps42 rfl fun Q hQ hQe=>?_
 (repeat'(first|refine Ctl ?_|((with_reducible refine Kof.use hK ?_);clear hK hE K E)|((first|(with_reducible refine ae fun K E hK hE=>?_)|((with_reducible refine ao (fun b hb=>?_));(repeat(obtain⟨_,hb⟩:=hb))))<;>(try simp(disch:=omega) only[go_sem,seval, *]))))
 rename_i b3 hb3 b4 _ _ hb4 _ _ _ _
 obtain⟨b5,hb5⟩:∃z,z=b:=⟨_,rfl⟩
 subst hb5
 generalize hS:((t.set b3 (.obj 26 [.lst (x.doms.map dmC) .no,.lst (x.decls.map aB) .no,.lst (x.rules.map az) .no])).set b4 (.obj 66 [.str dn,.lst (aw dd) .no])).set b5 (.obj 46 [.str tn,.lst (aD trs) .no])=S
 have q3:S b3=.obj 26 [.lst (x.doms.map dmC) .no,.lst (x.decls.map aB) .no,.lst (x.rules.map az) .no]:=by rw[← hS];simp only[St.set,if_true,if_false, *]
 have q4:S b4=.obj 66 [.str dn,.lst (aw dd) .no]:=by rw[← hS];simp only[St.set,if_true,if_false, *]
 have q5:S b5=.obj 46 [.str tn,.lst (aD trs) .no]:=by rw[← hS];simp only[St.set,if_true,if_false, *]
 have HF:Hid (Fg S t):=Lib.hid (by rw[← hS];exact Fg.setA (Fg.setA (Fg.of_set _ hb3) hb4) hb)
 clear hS hb3 hb4 hb
 refine bi (fun m env s'=>∃(j:Nat),j≤trs.length∧m+j=trs.length∧S=s'∧Hid (dt x.doms dd (ff trs j) (trs.drop j)=B)∧env 3=.ptr b3 0∧env 4=.ptr b4 0∧env 5=.ptr b5 0∧env 7=.int .i64 j) trs.length ?_ ?_
 ·exact⟨0,by omega,by omega,rfl,HB,ab,ab,ab,ab⟩
 clear HB
 rintro m env s' ⟨j,hj,hm,he0,HFB,e3,e4,e5,e7⟩
 subst he0
 by_cases hltj:j<trs.length
 ·obtain⟨r,hr⟩:=aO hltj
  have hsr:=dP hr
  have hrl1:=hrt.2 r (List.mem_of_getElem? hr)
  have HR:=Lib.hid hr
  have hfb:=HFB.out
  rw[r9 hr]at hfb
  have hrl:(ay r).length=r.length:=bH
  have hdl2:(aw dd).length=dd.length:=by simp[aw]
  generalize hRB:fo x.doms dd r=RB at hfb
  have HRB:Hid (fo x.doms (dd.drop 0) (r.drop 0)=RB):=Lib.hid hRB
  clear hRB hr HFB
  by_cases hlen:r.length=dd.length
  ·have hrld:=Lib.hid hlen
   have hlenT:((r.length:Int)=(dd.length:Int))=True:=eq_true (by omega)
   rw[decide_eq_true hlen,Bool.true_and]at hfb
   cases j with
   |zero=>
    have HFB:Hid ((RB && dt x.doms dd (some r) (trs.drop (0+1)))=B):=Lib.hid (by rw[← hfb];simp only[ff,hdB,Bool.true_and])
    clear hfb hlen
    (repeat'(first|refine Ctl ?_|((with_reducible refine Kof.use hK ?_);clear hK hE K E)|((with_reducible refine aj (fun h=>?_) (fun h=>?_))<;>(try(exfalso;first|assumption|omega)))|(((with_reducible refine ae fun K E hK hE=>?_))<;>(try simp(disch:=omega) only[go_sem,seval,hrl0,hsr,hrl,hdl2,hlenT, *]))))
    refine bi (fun m3 env s3=>∃(q:Nat),q≤r.length∧m3+q=r.length∧S=s3∧Hid (fo x.doms (dd.drop q) (r.drop q)=RB)∧env 3=.ptr b3 0∧env 4=.ptr b4 0∧env 5=.ptr b5 0∧env 7=.int .i64 (0:Nat)∧env 8=.lst (ay r) .no∧env 9=.int .i64 q) r.length ?_ ?_
    ·exact⟨0,by omega,by omega,rfl,HRB,ab,ab,ab,ab,ab,ab⟩
    clear e3 e4 e5 e7 env HRB
    rintro m3 env s3 ⟨q,hq,hm3,he0,HRB,e3,e4,e5,e7,e8,e9⟩
    subst he0
    by_cases hltq:q<r.length
    ·obtain⟨nn,hnn⟩:=aO hltq
     obtain⟨dq,hdq⟩:∃dq,dd[q]?=some dq:=aO (by have:=hrld.out;omega)
     have hsn2:=cq hnn
     have hsd2:=c8 hdq
     have hrb2:=HRB.out
     rw[lV hdq hnn]at hrb2
     have w3:=fun s=>w2 dq s
     generalize dM x.doms dq=dz at *
     clear hnn hdq
     by_cases hn0:nn<0
     ·have HBN:Hid (B=false):=Lib.hid (by rw[← HFB.out,← hrb2];simp only[show ¬ (0≤nn) by omega,decide_false,Bool.false_and])
      clear hrb2
      (repeat'(first|refine Ctl ?_|(with_reducible first|(refine Kof.use hK ?_;clear hK hE K E)|(refine Kof.use hKh ?_;clear hKh Kh)|(refine Kof.use hKb (aK ?_);clear hKb Kb)|refine au 10 [([0,1,2,3,4,5,6,7,8,9,10,11,12,13,14,15],16,[[6,7,8,9]])] [17,18] hQe fun K E hK hE=>?_)|((with_reducible refine aj (fun h=>?_) (fun h=>?_))<;>(try(exfalso;assumption)))|(((with_reducible first|refine ae fun K E hK hE=>?_|refine aE fun Kh hKh=>?_|refine aC fun Kh hKh=>?_|refine aL fun Kb hKb=>?_))<;>(try simp(disch:=omega) only[go_sem,seval,hrl,hdl2,hsn2,hsd2, *]))))
      all_goals(refine ap lx hQ ?_)
      all_goals rw[HBN.out]
      all_goals exact⟨_,_,Wk.refl _,HF.out,rfl,rfl⟩
     ·by_cases hnz:dz≤nn
      ·have HBN:Hid (B=false):=Lib.hid (by rw[← HFB.out,← hrb2];simp only[show ¬ (nn<dz) by omega,decide_false,Bool.false_and,Bool.and_false])
       clear hrb2
       (repeat'(first|refine Ctl ?_|(with_reducible first|(refine Kof.use hK ?_;clear hK hE K E)|(refine Kof.use hKh ?_;clear hKh Kh)|(refine Kof.use hKb (aK ?_);clear hKb Kb)|refine au 10 [([0,1,2,3,4,5,6,7,8,9,10,11,12,13,14,15],16,[[6,7,8,9]])] [17,18] hQe fun K E hK hE=>?_)|((with_reducible refine aj (fun h=>?_) (fun h=>?_))<;>(try(exfalso;assumption)))|(((with_reducible first|refine ae fun K E hK hE=>?_|refine ak lI (w3 _) ?_|refine aE fun Kh hKh=>?_|refine aC fun Kh hKh=>?_|refine aL fun Kb hKb=>?_))<;>(try simp(disch:=omega) only[go_sem,seval,hrl,hdl2,hsn2,hsd2, *]))))
       all_goals(refine ap lx hQ ?_)
       all_goals rw[HBN.out]
       all_goals exact⟨_,_,Wk.refl _,HF.out,rfl,rfl⟩
      ·have HRB2:Hid (fo x.doms (dd.drop (q+1)) (r.drop (q+1))=RB):=Lib.hid (by rw[← hrb2];simp only[show 0≤nn by omega,show nn<dz by omega,decide_true,Bool.true_and])
       clear hrb2
       (repeat'(first|refine Ctl ?_|(with_reducible first|(refine Kof.use hK ?_;clear hK hE K E)|(refine Kof.use hKh ?_;clear hKh Kh)|(refine Kof.use hKb (aK ?_);clear hKb Kb)|refine au 10 [([0,1,2,3,4,5,6,7,8,9,10,11,12,13,14,15],16,[[6,7,8,9]])] [17,18] hQe fun K E hK hE=>?_)|((with_reducible refine aj (fun h=>?_) (fun h=>?_))<;>(try(exfalso;assumption)))|(((with_reducible first|refine ae fun K E hK hE=>?_|refine ak lI (w3 _) ?_|refine aE fun Kh hKh=>?_|refine aC fun Kh hKh=>?_|refine aL fun Kb hKb=>?_))<;>(try simp(disch:=omega) only[go_sem,seval,hrl,hdl2,hsn2,hsd2, *]))))
       all_goals exact⟨m3 - 1,by omega,q+1,by omega,by omega,rfl,HRB2,ab,ab,ab,ab,ab,ab⟩
    ·obtain rfl:q=r.length:=by omega
     have hRBt:RB=true:=by rw[← HRB.out,List.drop_length];cases List.drop r.length dd<;>rfl
     have HFB2:Hid (dt x.doms dd (ff trs (0+1)) (trs.drop (0+1))=B):=Lib.hid (by rw[show ff trs (0+1)=some r from HR.out,← HFB.out,hRBt];simp only[Bool.true_and])
     (repeat'(first|refine Ctl ?_|((with_reducible refine Kof.use hK ?_);clear hK hE K E)|((with_reducible refine aj (fun h=>?_) (fun h=>?_))<;>(try(exfalso;assumption)))|(((with_reducible refine ae fun K E hK hE=>?_))<;>(try simp(disch:=omega) only[go_sem,seval,hrl, *]))))
     exact⟨m - 1,by omega,0+1,by omega,by omega,rfl,HFB2,ab,ab,ab,ab⟩
   |succ j'=>
    obtain⟨rp,hrp⟩:∃rp,trs[j']?=some rp:=aO (by omega)
    have hsp:=dP hrp
    have hpl:=hrt.2 rp (List.mem_of_getElem? hrp)
    have wp:=fun s=>Bq rp r .no .no (by omega) (by omega) s
    have hpv:ff trs (j'+1)=some rp:=hrp
    rw[hpv]at hfb
    simp only[hdB,← jc]at hfb
    generalize eJ rp r=LZ at *
    cases LZ with
    |true=>
     have HFB:Hid ((RB && dt x.doms dd (some r) (trs.drop (j'+1+1)))=B):=Lib.hid (by rw[← hfb];simp only[Bool.true_and])
     clear hfb hlen hrp hpv
     (repeat'(first|refine Ctl ?_|((with_reducible refine Kof.use hK ?_);clear hK hE K E)|((with_reducible refine aj (fun h=>?_) (fun h=>?_))<;>(try(exfalso;assumption)))|((first|(with_reducible first|refine ae fun K E hK hE=>?_|refine ak ss (wp _) ?_)|((with_reducible refine dC (fun h=>?_) (fun h=>?_))<;>(try(exfalso;omega))))<;>(try simp(disch:=omega) only[go_sem,seval,hrl0,hsr,hsp,hrl,hdl2,hlenT, *]))))
     refine bi (fun m3 env s3=>∃(q:Nat),q≤r.length∧m3+q=r.length∧S=s3∧Hid (fo x.doms (dd.drop q) (r.drop q)=RB)∧env 3=.ptr b3 0∧env 4=.ptr b4 0∧env 5=.ptr b5 0∧env 7=.int .i64 ((j'+1):Nat)∧env 8=.lst (ay r) .no∧env 9=.int .i64 q) r.length ?_ ?_
     ·exact⟨0,by omega,by omega,rfl,HRB,ab,ab,ab,ab,ab,ab⟩
     clear e3 e4 e5 e7 env HRB
     rintro m3 env s3 ⟨q,hq,hm3,he0,HRB,e3,e4,e5,e7,e8,e9⟩
     subst he0
     by_cases hltq:q<r.length
     ·obtain⟨nn,hnn⟩:=aO hltq
      obtain⟨dq,hdq⟩:∃dq,dd[q]?=some dq:=aO (by have:=hrld.out;omega)
      have hsn2:=cq hnn
      have hsd2:=c8 hdq
      have hrb2:=HRB.out
      rw[lV hdq hnn]at hrb2
      have w3:=fun s=>w2 dq s
      generalize dM x.doms dq=dz at *
      clear hnn hdq
      by_cases hn0:nn<0
      ·have HBN:Hid (B=false):=Lib.hid (by rw[← HFB.out,← hrb2];simp only[show ¬ (0≤nn) by omega,decide_false,Bool.false_and])
       clear hrb2
       (repeat'(first|refine Ctl ?_|(with_reducible first|(refine Kof.use hK ?_;clear hK hE K E)|(refine Kof.use hKh ?_;clear hKh Kh)|(refine Kof.use hKb (aK ?_);clear hKb Kb)|refine au 10 [([0,1,2,3,4,5,6,7,8,9,10,11,12,13,14,15],16,[[6,7,8,9]])] [17,18] hQe fun K E hK hE=>?_)|((with_reducible refine aj (fun h=>?_) (fun h=>?_))<;>(try(exfalso;assumption)))|(((with_reducible first|refine ae fun K E hK hE=>?_|refine aE fun Kh hKh=>?_|refine aC fun Kh hKh=>?_|refine aL fun Kb hKb=>?_))<;>(try simp(disch:=omega) only[go_sem,seval,hrl,hdl2,hsn2,hsd2, *]))))
       all_goals(refine ap lx hQ ?_)
       all_goals rw[HBN.out]
       all_goals exact⟨_,_,Wk.refl _,HF.out,rfl,rfl⟩
      ·by_cases hnz:dz≤nn
       ·have HBN:Hid (B=false):=Lib.hid (by rw[← HFB.out,← hrb2];simp only[show ¬ (nn<dz) by omega,decide_false,Bool.false_and,Bool.and_false])
        clear hrb2
        (repeat'(first|refine Ctl ?_|(with_reducible first|(refine Kof.use hK ?_;clear hK hE K E)|(refine Kof.use hKh ?_;clear hKh Kh)|(refine Kof.use hKb (aK ?_);clear hKb Kb)|refine au 10 [([0,1,2,3,4,5,6,7,8,9,10,11,12,13,14,15],16,[[6,7,8,9]])] [17,18] hQe fun K E hK hE=>?_)|((with_reducible refine aj (fun h=>?_) (fun h=>?_))<;>(try(exfalso;assumption)))|(((with_reducible first|refine ae fun K E hK hE=>?_|refine ak lI (w3 _) ?_|refine aE fun Kh hKh=>?_|refine aC fun Kh hKh=>?_|refine aL fun Kb hKb=>?_))<;>(try simp(disch:=omega) only[go_sem,seval,hrl,hdl2,hsn2,hsd2, *]))))
        all_goals(refine ap lx hQ ?_)
        all_goals rw[HBN.out]
        all_goals exact⟨_,_,Wk.refl _,HF.out,rfl,rfl⟩
       ·have HRB2:Hid (fo x.doms (dd.drop (q+1)) (r.drop (q+1))=RB):=Lib.hid (by rw[← hrb2];simp only[show 0≤nn by omega,show nn<dz by omega,decide_true,Bool.true_and])
        clear hrb2
        (repeat'(first|refine Ctl ?_|(with_reducible first|(refine Kof.use hK ?_;clear hK hE K E)|(refine Kof.use hKh ?_;clear hKh Kh)|(refine Kof.use hKb (aK ?_);clear hKb Kb)|refine au 10 [([0,1,2,3,4,5,6,7,8,9,10,11,12,13,14,15],16,[[6,7,8,9]])] [17,18] hQe fun K E hK hE=>?_)|((with_reducible refine aj (fun h=>?_) (fun h=>?_))<;>(try(exfalso;assumption)))|(((with_reducible first|refine ae fun K E hK hE=>?_|refine ak lI (w3 _) ?_|refine aE fun Kh hKh=>?_|refine aC fun Kh hKh=>?_|refine aL fun Kb hKb=>?_))<;>(try simp(disch:=omega) only[go_sem,seval,hrl,hdl2,hsn2,hsd2, *]))))
        all_goals exact⟨m3 - 1,by omega,q+1,by omega,by omega,rfl,HRB2,ab,ab,ab,ab,ab,ab⟩
     ·obtain rfl:q=r.length:=by omega
      have hRBt:RB=true:=by rw[← HRB.out,List.drop_length];cases List.drop r.length dd<;>rfl
      have HFB2:Hid (dt x.doms dd (ff trs ((j'+1)+1)) (trs.drop ((j'+1)+1))=B):=Lib.hid (by rw[show ff trs ((j'+1)+1)=some r from HR.out,← HFB.out,hRBt];simp only[Bool.true_and])
      (repeat'(first|refine Ctl ?_|((with_reducible refine Kof.use hK ?_);clear hK hE K E)|((with_reducible refine aj (fun h=>?_) (fun h=>?_))<;>(try(exfalso;assumption)))|(((with_reducible refine ae fun K E hK hE=>?_))<;>(try simp(disch:=omega) only[go_sem,seval,hrl, *]))))
      exact⟨m - 1,by omega,(j'+1)+1,by omega,by omega,rfl,HFB2,ab,ab,ab,ab⟩
    |false=>
     have HBN:Hid (B=false):=Lib.hid (by rw[← hfb];simp only[Bool.false_and])
     clear hfb hlen hrp hpv
     (repeat'(first|refine Ctl ?_|((with_reducible refine Kof.use hK ?_);clear hK hE K E)|((with_reducible refine aj (fun h=>?_) (fun h=>?_))<;>(try(exfalso;assumption)))|((first|(with_reducible first|refine ae fun K E hK hE=>?_|refine ak ss (wp _) ?_)|((with_reducible refine dC (fun h=>?_) (fun h=>?_))<;>(try(exfalso;omega))))<;>(try simp(disch:=omega) only[go_sem,seval,hrl0,hsr,hsp,hrl,hdl2,hlenT, *]))))
     all_goals(refine ap lx hQ ?_)
     all_goals rw[HBN.out]
     all_goals exact⟨_,_,Wk.refl _,HF.out,rfl,rfl⟩
  ·have HBN:Hid (B=false):=Lib.hid (by rw[← hfb];simp only[hlen,decide_false,Bool.false_and])
   have hlenT:((r.length:Int)=(dd.length:Int))=False:=eq_false (by omega)
   clear hfb hlen
   (repeat'(first|refine Ctl ?_|((with_reducible refine Kof.use hK ?_);clear hK hE K E)|((with_reducible refine aj (fun h=>?_) (fun h=>?_))<;>(try(exfalso;assumption)))|(((with_reducible refine ae fun K E hK hE=>?_))<;>(try simp(disch:=omega) only[go_sem,seval,hrl0,hsr,hrl,hdl2,hlenT, *]))))
   all_goals(refine ap lx hQ ?_)
   all_goals rw[HBN.out]
   all_goals exact⟨_,_,Wk.refl _,HF.out,rfl,rfl⟩
 ·obtain rfl:j=trs.length:=by omega
  have HBN:Hid (B=true):=Lib.hid (by have:=HFB.out;rw[List.drop_length]at this;exact this.symm)
  (repeat'(first|refine Ctl ?_|((with_reducible refine Kof.use hK ?_);clear hK hE K E)|((with_reducible refine aj (fun h=>?_) (fun h=>?_))<;>(try(exfalso;assumption)))|(((with_reducible refine ae fun K E hK hE=>?_))<;>(try simp(disch:=omega) only[go_sem,seval,hrl0, *]))))
  all_goals(refine ap lx hQ ?_)
  all_goals rw[HBN.out]
  all_goals exact⟨_,_,Wk.refl _,HF.out,rfl,rfl⟩
attribute [local go_sem] aN aX cG
def BgOk (x:Pgm)(g:List Tbl)(Y:List (List VV)):Prop:=∀(j:Nat) (y:List VV),Y[j]?=some y→∃d o,x.decls[j]?=some d∧y=[.str d.name,.lst (aD (aV g d.name)) o]
theorem BgOk.two {x:Pgm}{g:List Tbl}{Y:List (List VV)}(h:BgOk x g Y):∀y,y∈Y→y.length=2:=fun y hy=>by
 obtain⟨j,hj⟩:=List.mem_iff_getElem?.1 hy
 obtain⟨d,o,_,rfl⟩:=h j y hj
 rfl
end Go.Proofs.YteldpmgepfaiiaaGreatDoor
namespace Go.Proofs.YteldpmgepfaiiaaGreatDoor
open Go.RowKit
attribute [local go_sem] aN aX cG
def TD (x:Pgm)(L:List Tbl):Rlt:=fun n row=>row∈cH x L n
structure DocOk (x:Pgm) (L:List Tbl):Prop where
 nm:L.map (·.nm)=x.decls.map (·.name)
 row:∀(k:Nat) (y:Tbl) (d:Dcl),L[k]?=some y→x.decls[k]?=some d→∀r,r∈y.rs→r.length=d.doms.length∧Sml r
 ris:∀y,y∈L→Rising y.rs
 le:∀y,y∈L→y.rs.length≤600
theorem DocOk.len {x:Pgm}{L:List Tbl}(h:DocOk x L):L.length=x.decls.length:=by have:=congrArg List.length h.nm;simpa using this
theorem TdOk.at_ {x:Pgm}{L:List Tbl}(h:TdOk x L){n:List UInt8}{k:Nat}(hk:cW x.decls n=some k):∃y,L[k]?=some y:=by
 have h1:=(List.getElem?_eq_some_iff.1 (cN (show ixT n (x.decls.map (·.name))=some k from hk))).1
 rw[List.length_map]at h1
 exact aO (by rw[h.len];exact h1)
section
variable {x : Pgm} {L : List Tbl} {r : Rul} {vs : List (List UInt8)}
theorem TdOk.arity (h:TdOk x L)(hs:RulSnd x r vs):∀a,a∈r.body→∀row,row∈cH x L a.rel→row.length=a.ts.length:=fun a ha row hr=>by
 obtain⟨k,d,h1,h2,h3⟩:=hs.bd a ha
 obtain⟨y,hy⟩:=h.at_ h1
 rw[iX h1 hy]at hr
 rw[h3]
 exact(h.row k y d hy h2 row hr).1
theorem TdOk.good (h:TdOk x L)(hs:RulSnd x r vs):RGood (cH x L) vs (jR vs) (cm r.body) (cJ vs):=fun e' he=>by
 have hlen:=fp he
 have hf:=gP (fun a ha=>h.arity hs a (j1 ha)) hs.cov he
 refine⟨hf,⟨?_,fun n hn=>?_⟩,?_⟩
 ·unfold eY;rw[List.length_map,hlen];simp only[cJ,List.length_replicate];have:=hs.vl;omega
 ·unfold eY at hn
  obtain⟨o,ho,rfl⟩:=List.mem_map.1 hn
  cases o with
  |none=>exact absurd rfl (hf _ ho)
  |some v=>
   rcases kG he ho with e|⟨a,ha,row,hr,hv⟩
   ·unfold cJ at e
    have:=List.eq_of_mem_replicate e
    cases this
   ·obtain⟨k,d,h1,h2,_⟩:=hs.bd a (j1 ha)
    obtain⟨y,hy⟩:=h.at_ h1
    rw[iX h1 hy]at hr
    exact(h.row k y d hy h2 row hr).2.2 v hv
 ·unfold eY;rw[List.length_map,hlen];simp[cJ]
theorem xf {e:Asg}(h:∀o,o∈e→o≠none):ci e=eY e:=by
 unfold ci eY
 refine List.map_congr_left fun o ho=>?_
 cases o with
 |none=>exact absurd rfl (h _ ho)
 |some v=>rfl
theorem rX {l m:List (List Int)}{r:List Int}:r∈l.foldl putRow m↔r∈m∨r∈l:=by
 induction l generalizing m with
 |nil=>simp
 |cons a l ih=>rw[List.foldl_cons,ih,eL,List.mem_cons];grind
theorem rY {l m:List (List Int)}:(l.foldl putRow m).length≤m.length+l.length:=by
 induction l generalizing m with
 |nil=>simp
 |cons a l ih=>
  rw[List.foldl_cons,List.length_cons]
  have:=ih (m:=putRow m a)
  have h2:=(gW (l:=m) (r:=a)).1
  omega
theorem sD {T:Tbs}{most:Nat}:∀{l:List Atm} {rows R:List Asg},eC T vs most l rows=some R→R.length≤most+rows.length
 |[],rows,R,h=>by simp only[eC]at h;injection h with h;subst h;omega
 |a::l,rows,R,h=>by
  simp only[eC]at h
  split at h
  ·exact sD h
  ·split at h
   ·cases h
   ·rename_i hle
    have hle':(rows.flatMap fun e=>(T a.rel).filterMap (aP vs e a.ts)).length≤most:=by omega
    cases l with
    |nil=>simp only[eC]at h;injection h with h;subst h;omega
    |cons b l=>
     exact bodyR_le2 h hle'
where bodyR_le2 {T:Tbs} {most n:Nat}:∀{l:List Atm} {rows R:List Asg},eC T vs most l rows=some R→rows.length≤most→R.length≤most+n
 |[],rows,R,h,hr=>by simp only[eC]at h;injection h with h;subst h;omega
 |a::l,rows,R,h,hr=>by
  simp only[eC]at h
  split at h
  ·exact bodyR_le2 h hr
  ·split at h
   ·cases h
   ·rename_i hle
    exact bodyR_le2 h (by omega)
theorem xO (h:TdOk x L)(hs:RulSnd x r vs){most:Nat}{OUT:List (List Int)}(hb:sE (cH x L) vs most r.body=some OUT):OUT.length≤most+1∧∀row,row∈OUT↔row∈eH (cH x L) vs r.body:=by
 unfold sE at hb
 cases hR:eC (cH x L) vs most r.body [cJ vs]with
 |none=>rw[hR]at hb;cases hb
 |some R=>
  rw[hR]at hb
  injection hb with hb
  have hle:=sD hR
  have hsv:=iQ hR
  rw[List.flatMap_cons,List.flatMap_nil,List.append_nil]at hsv
  have hI:R.map ci=R.map eY:=List.map_congr_left fun e he=>xf (h.good hs e (hsv ▸ he)).1
  have hO:OUT=((R.map eY).filter (dr (cH x L) vs (cA r.body))).foldl putRow []:=by rw[← hb];unfold xo;rw[hI]
  constructor
  ·rw[hO]
   have h1:=rY (l:=(R.map eY).filter (dr (cH x L) vs (cA r.body))) (m:=[])
   have h2:=List.length_filter_le (dr (cH x L) vs (cA r.body)) (R.map eY)
   rw[List.length_map]at h2
   simp only[List.length_nil,List.length_singleton]at h1 hle
   omega
  ·intro row
   rw[hO,rX,hsv]
   simp only[List.not_mem_nil,false_or]
   rfl
theorem TdOk.gives (h:TdOk x L)(hs:RulSnd x r vs){row:List Int}:(∃rr,rr∈eH (cH x L) vs r.body∧aS vs rr r.head.ts=row)↔∃g,Sat (TD x L) g r.body∧eG g r.head.ts=row:=
 pt hs.bf (fun a ha _=>h.arity hs a ha) hs.cov hs.hf
theorem TdOk.sml (h:TdOk x L)(hs:RulSnd x r vs){rr:List Int}(hr:rr∈eH (cH x L) vs r.body):(aS vs rr r.head.ts).length=r.head.ts.length∧Sml (aS vs rr r.head.ts)∧rr.length=vs.length:=by
 have hg:jR vs rr:=(h.good hs).rows (ns:=cA r.body) hr
 exact⟨by simp[aS],fw hg.1 (by rw[hg.2];exact hs.hf) (by have:=hs.hl;omega) hs.hn,hg.2⟩
end
end Go.Proofs.YteldpmgepfaiiaaGreatDoor
namespace Go.Proofs.YteldpmgepfaiiaaGreatDoor
open Go.RowKit
attribute [local go_sem] aN aX cG
set_option maxHeartbeats 2000000 in
theorem El (tb:Tbl)(d:Dcl)(s:St):SRet Tryz.prog 48 [.agg (aZ tb),.agg (aB d)] s (.bool (decide (tb.nm=d.name))) s:=by
 obtain⟨tn,trs⟩:=tb
 obtain⟨dn,dd⟩:=d
 simp only[aZ,aB]
 refine av Tryz.func48 rfl Tryz.ntmps48 rfl fun Q hQ hQe=>?_
 (repeat'(first|refine Ctl ?_|((with_reducible refine Kof.use hK ?_);clear hK hE K E)|((first|(with_reducible refine ae fun K E hK hE=>?_)|((with_reducible refine ao (fun b hb=>?_));(repeat(obtain⟨_,hb⟩:=hb))))<;>(try simp(disch:=omega) only[go_sem,seval, *]))))
 all_goals(refine ap IT hQ ?_)
 all_goals(refine⟨_,_,Wk.of_eq ?_,?_,rfl,rfl⟩)
 all_goals first|rfl|(exact bj)
theorem uX {l:List Tbl}{ds:List Dcl}{i:Nat}{tb:Tbl}{d:Dcl}(h1:l[i]?=some tb)(h2:ds[i]?=some d):((l.take (i+1)).map (·.nm)=(ds.take (i+1)).map (·.name))=((l.take i).map (·.nm)=(ds.take i).map (·.name)∧tb.nm=d.name):=by
 rw[b9 h1,b9 h2,List.map_append,List.map_append]
 have hl1:i<l.length:=(List.getElem?_eq_some_iff.1 h1).1
 have hl2:i<ds.length:=(List.getElem?_eq_some_iff.1 h2).1
 apply propext
 constructor
 ·intro h
  have:=List.append_inj h (by simp only[List.length_map,List.length_take];omega)
  exact⟨this.1,by simpa using this.2⟩
 ·rintro⟨h,e⟩
  rw[h]
  simp[e]
set_option maxHeartbeats 4000000 in
theorem Dn (l:List Tbl)(ds:List Dcl)(o1 o2:Own)(hl:l.length≤1000000)(hd:ds.length≤140737488355328)(t:St) :
  SRet Tryz.prog 47 [.lst (l.map aZ) o1,.lst (ds.map aB) o2,.fn 48 []] t (.bool (decide (l.map (·.nm)=ds.map (·.name)))) t:=by
 have hl1:(l.map aZ).length=l.length:=by simp
 have hd1:(ds.map aB).length=ds.length:=by simp
 have w1:=fun tb d s=>El tb d s
 by_cases hlen:l.length=ds.length
 ·have hlen':((l.length:Int)=(ds.length:Int))=True:=eq_true (by omega)
  generalize hR:decide (l.map (·.nm)=ds.map (·.name))=R
  have HR:=Lib.hid hR
  clear hR
  refine av Tryz.func47 rfl Tryz.ntmps47 rfl fun Q hQ hQe=>?_
  (repeat'(first|refine Ctl ?_|((with_reducible refine Kof.use hK ?_);clear hK hE K E)|((with_reducible refine aj (fun h=>?_) (fun h=>?_))<;>(try(exfalso;assumption)))|(((with_reducible refine ae fun K E hK hE=>?_))<;>(try simp(disch:=omega) only[go_sem,seval,hl1,hd1,hlen', *]))))
  refine aI (fun m env s'=>∃(i:Nat),i≤l.length∧m+i=l.length∧t=s'∧Hid ((l.take i).map (·.nm)=(ds.take i).map (·.name))∧env 0=.lst (l.map aZ) o1∧env 1=.lst (ds.map aB) o2∧env 2=.fn 48 []∧env 15=.lst (l.map aZ) o1∧env 16=.int .i64 l.length∧env 17=.int .i64 i) l.length ?_ ?_
  ·exact⟨_,Fg.refl _,0,by omega,by omega,rfl,Lib.hid (by simp),ab,ab,ab,ab,ab,ab⟩
  rintro m env s' ⟨i,hi,hm,rfl,HH,e0,e1,e2,e15,e16,e17⟩
  by_cases hlt:i<l.length
  ·obtain⟨tb,htb⟩:=aO hlt
   obtain⟨d,hd2⟩:∃d,ds[i]?=some d:=aO (by omega)
   have hst:=em htb
   have hsd:=c9 hd2
   have HT:=Lib.hid (uX htb hd2)
   have w2:=fun s=>w1 tb d s
   have HTB:=Lib.hid htb
   have HDD:=Lib.hid hd2
   have HNE:Hid (¬ tb.nm=d.name→R=false):=Lib.hid fun h=>by
    rw[← HR.out]
    refine decide_eq_false fun e=>h ?_
    have h1:(l.map (·.nm))[i]?=(ds.map (·.name))[i]?:=by rw[e]
    rw[List.getElem?_map,List.getElem?_map,HTB.out,HDD.out]at h1
    simpa using h1
   obtain⟨tn,trs⟩:=tb
   obtain⟨dn,dd⟩:=d
   simp only[aZ,aB]at hst hsd w2
   simp only at HT HNE
   clear htb hd2 w1
   by_cases he:tn=dn
   ·have he':decide (tn=dn)=true:=decide_eq_true he
    rw[he']at w2
    have HT2:Hid ((l.take (i+1)).map (·.nm)=(ds.take (i+1)).map (·.name)):=Lib.hid (by rw[HT.out];exact⟨HH.out,he⟩)
    clear he'
    subst he
    (repeat'(first|refine Ctl ?_|((with_reducible refine Kof.use hK ?_);clear hK hE K E)|((with_reducible refine aj (fun h=>?_) (fun h=>?_))<;>(try(exfalso;first|assumption|omega)))|((first|(with_reducible first|refine ae fun K E hK hE=>?_|refine ak AV (w2 _) ?_)|((with_reducible refine ao (fun b hb=>?_));(repeat(obtain⟨_,hb⟩:=hb))))<;>(try simp(disch:=omega) only[go_sem,seval,hl1,hd1,hst,hsd, *]))))
    all_goals exact⟨_,bj,m - 1,by omega,i+1,by omega,by omega,rfl,HT2,ab,ab,ab,ab,ab,ab⟩
   ·have he':decide (tn=dn)=false:=decide_eq_false he
    rw[he']at w2
    have HRF:=Lib.hid (HNE.out he)
    clear he'
    (repeat'(first|refine Ctl ?_|((with_reducible refine Kof.use hK ?_);clear hK hE K E)|((with_reducible refine aj (fun h=>?_) (fun h=>?_))<;>(try(exfalso;first|assumption|omega)))|((first|(with_reducible first|refine ae fun K E hK hE=>?_|refine ak AV (w2 _) ?_)|((with_reducible refine ao (fun b hb=>?_));(repeat(obtain⟨_,hb⟩:=hb))))<;>(try simp(disch:=omega) only[go_sem,seval,hl1,hd1,hst,hsd, *]))))
    all_goals(refine ap IU hQ ?_)
    all_goals rw[HRF.out]
    all_goals(refine⟨_,_,Wk.of_eq ?_,?_,rfl,rfl⟩)
    all_goals first|rfl|(exact bj)
  ·obtain rfl:i=l.length:=by omega
   have hR:R=true:=by
    have h3:=HH.out
    rw[List.take_length,hlen,List.take_length]at h3
    rw[← HR.out];exact decide_eq_true h3
   subst hR
   clear HH HR
   (repeat'(first|refine Ctl ?_|((with_reducible refine Kof.use hK ?_);clear hK hE K E)|((with_reducible refine aj (fun h=>?_) (fun h=>?_))<;>(try(exfalso;omega)))|(((with_reducible refine ae fun K E hK hE=>?_))<;>(try simp(disch:=omega) only[go_sem,seval,hl1,hd1, *]))))
   all_goals(refine ap IU hQ ?_)
   all_goals(refine⟨_,_,Wk.of_eq ?_,?_,rfl,rfl⟩)
   all_goals first|rfl|(exact bj)
 ·have hlen':((l.length:Int)=(ds.length:Int))=False:=eq_false (by omega)
  have hne:decide (l.map (·.nm)=ds.map (·.name))=false:=decide_eq_false fun e=>hlen (by have:=congrArg List.length e;simpa using this)
  rw[hne]
  refine av Tryz.func47 rfl Tryz.ntmps47 rfl fun Q hQ hQe=>?_
  (repeat'(first|refine Ctl ?_|((with_reducible refine Kof.use hK ?_);clear hK hE K E)|((with_reducible refine aj (fun h=>?_) (fun h=>?_))<;>(try(exfalso;assumption)))|(((with_reducible refine ae fun K E hK hE=>?_))<;>(try simp(disch:=omega) only[go_sem,seval,hl1,hd1,hlen', *]))))
  all_goals(refine ap IU hQ ?_)
  all_goals(refine⟨_,_,Wk.of_eq ?_,?_,rfl,rfl⟩)
  all_goals first|rfl|(exact bj)
def sR (a:List (List Int))(r:List Int):List (List Int)×Bool:=(nl r a,decide ((nl r a).length≤16384))
structure InsRun (a0 rows R:List (List Int)):Prop where
 nd:R.Nodup
 src:∀h,h∈R→h∈a0∨h∈rows
 mono:∀h,h∈a0→h∈R
 full:R.length≤16384→∀r,r∈rows→r∈R
 le:R.length≤16385
theorem vB {r:List Int}{l:List (List Int)}:(nl r l).length≤l.length+1:=by
 unfold nl
 split
 ·omega
 ·simp
theorem qT:∀{rows a0:List (List Int)},a0.Nodup→a0.length≤16384→InsRun a0 rows (cS sR a0 rows).1
 |[],a0,h1,h2=>⟨h1,fun h hh=>.inl hh,fun h hh=>hh,fun _ r hr=>(by cases hr),by simp only[cS];omega⟩
 |r::rows,a0,h1,h2=>by
  simp only[cS,sR,decide_eq_true_eq]
  by_cases hle:(nl r a0).length≤16384
  ·rw[if_pos hle]
   have ih:=qT (rows:=rows) (gb (r:=r) h1) hle
   refine⟨ih.nd,fun h hh=>?_,fun h hh=>ih.mono h (eD.2 (.inl hh)),fun hf q hq=>?_,ih.le⟩
   ·rcases ih.src h hh with e|e
    ·rcases eD.1 e with e|e
     ·exact .inl e
     ·exact .inr (by simp[e])
    ·exact .inr (by simp[e])
   ·rcases List.mem_cons.1 hq with rfl|hq
    ·exact ih.mono _ (eD.2 (.inr rfl))
    ·exact ih.full hf q hq
  ·rw[if_neg hle]
   refine⟨gb h1,fun h hh=>?_,fun h hh=>eD.2 (.inl hh),fun hf=>absurd hf hle,?_⟩
   ·rcases eD.1 hh with e|e
    ·exact .inl e
    ·exact .inr (by simp[e])
   ·have:=vB (r:=r) (l:=a0);simp only;omega
def BdP (c tb m:Nat)(a:List (List Int))(u:St)(F:Nat→Prop):Prop:=∃g,u c=.obj 78 [.ptr tb 0]∧TabAt u tb m g a∧F=fW tb m g a
theorem Bi {c tb m g:Nat}{a:List (List Int)}{u:St}(hc:u c=.obj 78 [.ptr tb 0])(h:TabAt u tb m g a):¬ fW tb m g a c:=by
 rintro(e|e|⟨hn,e⟩)
 ·rw[e,h.o]at hc;injection hc with h1;exact absurd h1 (by decide)
 ·rw[e,h.h]at hc;cases hc
 ·rw[e,h.r hn]at hc;cases hc
set_option maxHeartbeats 4000000 in
theorem D6 (u:St)(c tb m g:Nat)(a:List (List Int))(r:List Int)(hc:u c=.obj 78 [.ptr tb 0])(hT:TabAt u tb m g a)(hr:Sml r)(hn:a.length≤20000) :
  SCalls Tryz.prog 50 [bV r,.ptr c 0] u fun w s=>∃u':St,w=.ret (.bool (sR a r).2)∧s=u'∧∃g',u' c=.obj 78 [.ptr tb 0]∧TabAt u' tb m g' (nl r a)∧Keep u u' (fW tb m g a)∧∀z,fW tb m g' (nl r a) z→fW tb m g a z∨u z=.free:=by
 have wa:=SCalls.mono (uP u tb m g a r hT hr (by omega)) (fun w v h=>by
  obtain⟨g',h1,h2⟩:=h
  exact(⟨v,h1,rfl,g',h2⟩:∃u':St,w=_∧v=u'∧∃g',TabAt u' tb m g' (nl r a)∧Keep u u' (fW tb m g a)∧∀z,fW tb m g' (nl r a) z→fW tb m g a z∨u z=.free))
 have HC:=Lib.hid hc
 have HT:=Lib.hid hT
 unfold bV at wa ⊢
 clear hT
 refine av Tryz.func50 rfl Tryz.ntmps50 rfl fun Q hQ hQe=>?_
 (repeat'(first|refine Ctl ?_|((with_reducible refine Kof.use hK ?_);clear hK hE K E)|(((with_reducible refine ae fun K E hK hE=>?_))<;>(try simp(disch:=omega) only[go_sem,seval, *]))))
 refine aT Az wa (fun U h=>?_)
 obtain⟨g',c1,c2,c3⟩:=h
 have q1:U c=.obj 78 [.ptr tb 0]:=by rw[c2 c (by rw[HC.out];simp) (Bi HC.out HT.out)];exact HC.out
 have q2:=c1.o
 have HA:=Lib.hid (And.intro c1 (And.intro c2 c3))
 clear c1 c2 c3 hc wa
 simp only[go_sem,seval]
 (repeat'(first|refine Ctl ?_|((with_reducible refine Kof.use hK ?_);clear hK hE K E)|(((with_reducible refine ae fun K E hK hE=>?_))<;>(try simp(disch:=omega) only[go_sem,seval,dE, *]))))
 all_goals(refine ap IS hQ ?_)
 all_goals exact⟨_,_,Wk.refl _,Fg.refl _,_,congrArg (fun b=>SEnd.ret (.bool b)) (decide_eq_decide.2 (by omega)),rfl,g',q1,HA.out.1,HA.out.2.1,HA.out.2.2⟩
theorem Ac (c tb m:Nat)(vars:List (List UInt8)):TellOk 50 [.ptr c 0] (fun z=>z=c) (BdP c tb m) sR (fun a=>a.length≤20000) (jR vars):=by
 refine⟨Dc,?_,?_,?_,?_,?_⟩
 ·rintro a t F z ⟨g,h1,h2,rfl⟩ hz
  exact h2.live hz
 ·rintro a t F z ⟨g,h1,h2,rfl⟩ rfl
  rw[h1];simp
 ·rintro a t u F ⟨g,h1,h2,rfl⟩ hk
  exact⟨g,by rw[hk c (.inr rfl)];exact h1,h2.keep fun z hz=>hk z (.inl hz),rfl⟩
 ·intro a r ho hg h2
  simp only[sR,decide_eq_true_eq]at h2 ⊢
  omega
 ·rintro a t F r ⟨g,h1,h2,rfl⟩ ho hg
  refine SCalls.mono (D6 t c tb m g a r h1 h2 hg.1 ho) ?_
  rintro w s ⟨u',rfl,rfl,g',q0,q1,q2,q3⟩
  exact⟨_,rfl,rfl,fW tb m g' _,⟨g',q0,q1,rfl⟩,q3,q2⟩
end Go.Proofs.YteldpmgepfaiiaaGreatDoor
namespace Go.Proofs.YteldpmgepfaiiaaGreatDoor
open Go.RowKit
attribute [local go_sem] aN aX cG
def ej (x:Pgm)(k:Int)(l:List Tbl)(R:List (List Int))(e:Int):Prop:=
 if (varsP x k).2≠0 then R=[]∧e=(varsP x k).2
 else if ¬ (l.map (·.nm)=x.decls.map (·.name)∧cV x [] l=true)then R=[]∧e=1
 else ∃(j:Nat) (r:Rul),k=(j:Int)∧x.rules[j]?=some r∧RulSnd x r (varsP x k).1.vs ∧
  ((e=0∧Rising R∧R.length≤16384∧∀row,row∈R↔row∈eH (cH x l) (varsP x k).1.vs r.body)∨(e=2∧R=[]∧∃L:List (List Int),L.Nodup∧16384<L.length∧∀row,row∈L→row∈eH (cH x l) (varsP x k).1.vs r.body))
theorem rS {l:List Tbl}(hn:(l.map (·.nm)).Nodup){j:Nat}{t:Tbl}(h:l[j]?=some t):aV l t.nm=t.rs:=by
 unfold aV
 cases hf:l.find? (fun u=>decide (u.nm=t.nm))with
 |none=>
  rw[List.find?_eq_none]at hf
  exact absurd (decide_eq_true rfl) (hf t (List.mem_of_getElem? h))
 |some u=>
  have h1:u.nm=t.nm:=by simpa using List.find?_some hf
  obtain⟨i,hi⟩:=List.mem_iff_getElem?.1 (List.mem_of_find?_eq_some hf)
  have e1:(l.map (·.nm))[i]?=some t.nm:=by rw[List.getElem?_map,hi];simp[h1]
  have e2:(l.map (·.nm))[j]?=some t.nm:=by rw[List.getElem?_map,h];rfl
  have hij:i=j:=(List.getElem?_inj (List.getElem?_eq_some_iff.1 e1).1 hn).1 (e1.trans e2.symm)
  subst hij
  rw[hi]at h
  injection h with h
  rw[h]
theorem uI {x:Pgm}{l:List Tbl}{X:List Tab}(hn:(x.decls.map (·.name)).Nodup)(hl:l.map (·.nm)=x.decls.map (·.name))(hX:X.map (·.l)=x.decls.map (fun d=>aV l d.name)):bQ x X=cH x l:=by
 funext n
 unfold bQ cH
 cases hk:cW x.decls n with
 |none=>rfl
 |some k=>
  simp only
  have h1:=cN (show ixT n (x.decls.map (·.name))=some k from hk)
  have h2:(l.map (·.nm))[k]?=some n:=by rw[hl];exact h1
  rw[List.getElem?_map]at h1 h2
  obtain⟨d,hd,hdn⟩:=Option.map_eq_some_iff.1 h1
  obtain⟨t,ht,htn⟩:=Option.map_eq_some_iff.1 h2
  have h3:(X.map (·.l))[k]?=some (aV l d.name):=by rw[hX,List.getElem?_map,hd];rfl
  rw[List.getElem?_map]at h3
  rw[h3,ht,hdn,← htn,rS (hl ▸ hn) ht]
  rfl
theorem qN {x:Pgm}{k:Int}(h:(varsP x k).2=0):(soundP x).2.1=0∧∃(j:Nat) (r:Rul),k=(j:Int)∧x.rules[j]?=some r:=by
 unfold varsP at h
 by_cases hs:(soundP x).2.1=0
 ·refine⟨hs,?_⟩
  rw[if_neg (by simp[hs])]at h
  by_cases hk:k<0
  ·rw[if_pos hk]at h;cases h
  ·rw[if_neg hk]at h
   cases hr:x.rules[k.toNat]? with
   |none=>rw[hr]at h;cases h
   |some r=>exact⟨k.toNat,r,by omega,hr⟩
 ·rw[if_pos hs]at h;exact absurd h hs
set_option maxHeartbeats 16000000 in
theorem Ak (x:Pgm)(k:Int)(l:List Tbl)(oL:Own)(hx:PgmOk x)(hds:∀d,d∈x.doms→d.size≤256)(hll:l.length≤100000)(hrs:∀t,t∈l→t.rs.length≤100000∧∀r,r∈t.rs→r.length≤100000)(hr3:∀t,t∈l→t.rs.length≤16384)(t:St) :
  SCalls Tryz.prog 21 [.agg (pgC x),.int .i64 k,.lst (l.map aZ) oL] t fun w u=>∃q:List (List Int)×Int,w=.ret (.tup [.lst (aD q.1) .no,.int .i64 q.2])∧u=t∧ej x k l q.1 q.2:=by
 have w1:=fun s=>Da x k hx s
 by_cases hv:(varsP x k).2=0
 ·obtain⟨hs,j,r,rfl,hr⟩:=qN hv
  obtain⟨st,hsp,hr0,hb0,hst⟩:=eW hs
  obtain⟨hdl,hrl,hbd⟩:=gX (dQ hr0)
  have hnd:=vj hr0
  have w2:=fun s=>SCalls.mono (Dp x hx ⟨by omega,by omega⟩ hnd.1 hnd.2 s) (fun w u h=>by
   obtain⟨p,bm,bz,X,h1,h2⟩:=h
   exact(⟨(p,u),h1,rfl,bm,bz,X,h2⟩:∃a:Nat×St,w=.ret (.ptr a.1 0)∧u=a.2∧∃bm bz X,MdAt a.2 a.1 bm bz x (varsL x x.rules.length) X∧X.map (·.l)=List.replicate x.decls.length []∧Fg a.2 s∧∀z,(z=a.1∨z=bm∨z=bz∨TbF X z)→s z=.free))
  have w3:=fun s=>Dn l x.decls oL .no (by omega) (by omega) s
  have hsnd:=jA hds hs hr
  have hsr:=fm hr
  have hlr:(x.rules.map az).length=x.rules.length:=by simp
  have hjl:j<x.rules.length:=(List.getElem?_eq_some_iff.1 hr).1
  unfold yi at w1
  rw[hv]at w1
  have hvl:=hsnd.vl
  have HSN:=Lib.hid hsnd
  have HR:=Lib.hid hr
  have HV:=Lib.hid hv
  have HND:=Lib.hid hnd
  have HB0:Hid (∀d,d∈x.decls→d.doms.length≤100000):=Lib.hid fun d hd=>by
   have hp:=dQ hr0
   unfold cE at hp
   simp only[Bool.and_eq_true,List.all_eq_true]at hp
   have:=hp.1.2 d hd
   unfold eO at this
   simp only[Bool.and_eq_true,decide_eq_true_eq]at this
   omega
  obtain⟨rh,rb⟩:=r
  simp only[az]at hsr
  have hvsl:(aw (varsP x (j:Int)).1.vs).length=(varsP x (j:Int)).1.vs.length:=by simp[aw]
  clear hr hv hr0 hb0 hst hsp
  generalize hVS:(varsP x (j:Int)).1.vs=vs at *
  generalize (varsP x (j:Int)).1.ds=vd at *
  simp only[pgC]at w1 w2 ⊢
  refine av Tryz.func21 rfl Tryz.ntmps21 rfl fun Q hQ hQe=>?_
  (repeat'(first|refine Ctl ?_|((with_reducible refine Kof.use hK ?_);clear hK hE K E)|((with_reducible refine aj (fun h=>?_) (fun h=>?_))<;>(try(exfalso;assumption)))|((first|(with_reducible first|refine ae fun K E hK hE=>?_|refine ak KZ (w1 _) ?_)|((with_reducible refine ao (fun b hb=>?_))))<;>(try simp(disch:=omega) only[go_sem,seval, *]))))
  obtain⟨bp,hbp⟩:∃z,z=b:=⟨_,rfl⟩
  subst hbp
  refine aT K5 (w2 _) (fun a h=>?_)
  obtain⟨p,S1⟩:=a
  obtain⟨bm,bz,X0,g1,g2,g3,g4⟩:=h
  simp only at g1 g3 g4 ⊢
  have hK1:∀z,t z≠.free→S1 z=t z:=fun z hz=>by
   rcases g3 z with e|e
   ·rw[St.set_other _ _ (aQ hz hb)]at e;exact absurd e hz
   ·rw[← e,St.set_other _ _ (aQ hz hb)]
  have hB1:S1 bp=.obj 26 [.lst (x.doms.map dmC) .no,.lst (x.decls.map aB) .no,.lst (x.rules.map az) .no]:=by
   rcases g3 bp with e|e
   ·rw[St.set_same]at e;cases e
   ·rw[← e,St.set_same]
  have hMf:∀z,MdF p bm bz X0 z→t z=.free∧z≠bp:=fun z hz=>by
   have:=g4 z hz
   have hne:z≠bp:=fun e=>by rw[e,St.set_same]at this;cases this
   rw[St.set_other _ _ hne]at this
   exact⟨this,hne⟩
  by_cases hnm:l.map (·.nm)=x.decls.map (·.name)
  ·rw[decide_eq_true hnm]at w3
   simp only[go_sem,seval]
   (repeat'(first|refine Ctl ?_|((with_reducible refine Kof.use hK ?_);clear hK hE K E)|(((with_reducible first|refine ae fun K E hK hE=>?_|refine ak Bh (w3 _) ?_))<;>(try simp(disch:=omega) only[go_sem,seval, *]))))
   have wf:=Dq x p bm bz (varsL x x.rules.length) X0 l oL hds HB0.out (by omega) hll hrs HND.out.2 g2 S1 g1
   refine aT K4 wf (fun S2 h=>?_)
   obtain⟨h1,h2⟩:=h
   have hK2:∀z,t z≠.free→S2 z=t z:=fun z hz=>by
    rw[h1 z (by rw[hK1 z hz];exact hz) (fun e=>hz (hMf z e).1)];exact hK1 z hz
   have hB2:S2 bp=.obj 26 [.lst (x.doms.map dmC) .no,.lst (x.decls.map aB) .no,.lst (x.rules.map az) .no]:=by
    rw[h1 bp (by rw[hB1];simp) (fun e=>(hMf bp e).2 rfl)];exact hB1
   have HK2:=Lib.hid hK2
   have HS1:Hid (∀z,S1 z=.free→t z=.free∧z≠bp):=Lib.hid fun z hz=>⟨by
    by_cases e:t z=.free
    ·exact e
    ·rw[hK1 z e]at hz;exact absurd hz e,fun e=>by rw[e,hB1]at hz;cases hz⟩
   cases hT:cV x [] l with
   |false=>
    have HP:Hid (ej x (j:Int) l [] 1):=Lib.hid (by
     unfold ej
     rw[if_neg (by simp[HV.out]),if_pos (fun h=>by rw[hT]at h;cases h.2)]
     exact⟨rfl,rfl⟩)
    clear h1 h2 wf hK1 hB1 hMf g1 g2 g3 g4 w1 w2 w3 hK2 hb
    simp only[go_sem,seval]
    (repeat'(first|refine Ctl ?_|((with_reducible refine Kof.use hK ?_);clear hK hE K E)|((with_reducible refine aj (fun h=>?_) (fun h=>?_))<;>(try(exfalso;assumption)))|(((with_reducible refine ae fun K E hK hE=>?_))<;>(try simp(disch:=omega) only[go_sem,seval, *]))))
    all_goals(refine ap I1 hQ ?_)
    all_goals exact⟨_,t,Wk.tup2,ib HK2.out,([],1),rfl,rfl,HP.out⟩
   |true=>
    obtain⟨X,m1,m2,m3⟩:=h2 hT
    have HM:=Lib.hid m1
    have HMF:Hid (∀z,MdF p bm bz X z→t z=.free∧z≠bp):=Lib.hid fun z hz=>(m3 z hz).elim (hMf z) (HS1.out z)
    have hle:∀y,y∈X→y.l.length≤16384:=fun y hy=>by
     obtain⟨i,hi⟩:=List.mem_iff_getElem?.1 hy
     have h1:(X.map (·.l))[i]?=some y.l:=by rw[List.getElem?_map,hi];rfl
     rw[m2,List.getElem?_map]at h1
     obtain⟨d,_,h2⟩:=Option.map_eq_some_iff.1 h1
     rw[← h2]
     unfold aV
     cases hf:l.find? (fun u=>decide (u.nm=d.name))with
     |none=>simp
     |some u=>exact hr3 u (List.mem_of_find?_eq_some hf)
    have hok:=CH hds HB0.out hT HND.out.2 m2 hle
    have hts:=uI HND.out.2 hnm m2
    have HTB:=Lib.hid hok
    have hbd:=hok.matm HSN.out
    have hrg:=hok.rgood HSN.out
    rw[hts]at hrg
    have HBD:=Lib.hid hbd
    have HRG:=Lib.hid hrg
    have HTS:=Lib.hid hts
    have HNM:=Lib.hid hnm
    have HTT:=Lib.hid hT
    clear h1 h2 wf hK1 hB1 hMf g1 g2 g3 g4 w1 w2 w3 hK2 hb HS1 m1 m2 m3 hle hok hts hbd hrg hnm hT
    have lB:S2 bp≠.free:=by rw[hB2];simp
    simp only[go_sem,seval]
    (repeat'(first|refine Ctl ?_|((with_reducible refine Kof.use hK ?_);clear hK hE K E)|((with_reducible refine aj (fun h=>?_) (fun h=>?_))<;>(try(exfalso;assumption)))|((first|(with_reducible refine ae fun K E hK hE=>?_)|((with_reducible refine ao (fun b hb=>?_));(repeat(obtain⟨_,hb⟩:=hb));(try(obtain⟨_,_⟩:=nef hb lB))))<;>(try simp(disch:=omega) only[go_sem,seval,hlr,hsr, *]))))
    rename_i mS hmS _ _ tb _ _ htb _ _ _ _ _ _ _ _
    obtain⟨c,hc⟩:∃z,z=b:=⟨_,rfl⟩
    subst hc
    generalize hS6:((S2.set mS (.map [])).set tb (.obj 81 [.lst [] .full,.mp mS])).set c (.obj 78 [.ptr tb 0])=S6
    have z1:S6 mS=.map []:=by
     rw[← hS6];simp only[St.set,if_true,if_false, *]
    have z2:S6 tb=.obj 81 [.lst [] .full,.mp mS]:=by
     rw[← hS6];simp only[St.set,if_true,if_false, *]
    have z3:S6 c=.obj 78 [.ptr tb 0]:=by
     rw[← hS6];simp only[St.set,if_true,if_false, *]
    have hk6:∀z,S2 z≠.free→S6 z=S2 z:=fun z hz=>by
     rw[← hS6,St.set_other _ _ (aQ hz hb),St.set_other _ _ (aQ hz htb),St.set_other _ _ (aQ hz hmS)]
    clear hS6
    have hgs:=GS.rawnil (i:=0) z2 rfl
    have y1:(S6.set tb (.obj 81 [.raw (.slice none 0 0),.mp mS])) mS=.map []:=by rw[St.set_other _ _ (by assumption)];exact z1
    have y2:(S6.set tb (.obj 81 [.raw (.slice none 0 0),.mp mS])) tb=.obj 81 [.raw (.slice none 0 0),.mp mS]:=St.set_same _ _ _
    have y3:(S6.set tb (.obj 81 [.raw (.slice none 0 0),.mp mS])) c=.obj 78 [.ptr tb 0]:=by rw[St.set_other _ _ (by assumption)];exact z3
    have HK7:Hid (∀z,S2 z≠.free→(S6.set tb (.obj 81 [.raw (.slice none 0 0),.mp mS])) z=S2 z):=Lib.hid fun z hz=>by rw[St.set_other _ _ (aQ hz htb)];exact hk6 z hz
    have hgs':GS S6 (S6.set tb (.obj 81 [.raw (.slice none 0 0),.mp mS])):=hgs
    generalize S6.set tb (.obj 81 [.raw (.slice none 0 0),.mp mS])=S7 at *
    have hP:BdP c tb mS [] S7 (fW tb mS 0 []):=⟨0,y3,⟨y2,y1,fun h=>absurd rfl h,fun x hx=>(by cases hx),by simp⟩,rfl⟩
    have hMM:MdAt S7 p bm bz x (varsL x x.rules.length) X:=HM.out.keep fun z hz=>HK7.out z (HM.out.live hz)
    have hsep:∀z,fW tb mS 0 [] z→¬ MdF p bm bz X z:=by
     rintro z (rfl|rfl|⟨h,_⟩) hz
     ·exact HM.out.live hz htb
     ·exact HM.out.live hz hmS
     ·exact h rfl
    have wc:=SCalls.pre (GSg.of_gs hgs') (Do (Ac c tb mS vs) (fun r h=>h.1) ⟨rh,rb⟩ HBD.out (by have:=HSN.out.bl;omega) (by have:=HSN.out.vl;omega) HSN.out.nd (fun y hy=>by have:=HTB.out.le y hy;omega) p bm bz .no S7 [] _ hMM hP hsep (by simp) (by rw[HTS.out];exact HRG.out))
    have hrun:=qT (rows:=eH (cH x l) vs rb) (a0:=[]) List.nodup_nil (by simp)
    simp only[HTS.out]at wc
    generalize (cS sR [] (eH (cH x l) vs rb)).1=AL at *
    have HRUN:=Lib.hid hrun
    simp only[az]at wc
    have HFR:Hid (S2 mS=.free∧S2 tb=.free∧S2 c=.free):=Lib.hid ⟨hmS,htb,hb⟩
    clear z1 z2 z3 y1 y2 y3 hk6 hgs hgs' hP hMM hsep hrun hmS htb hb lB
    refine aT KY wc (fun S8 h=>?_)
    obtain⟨F',⟨g,g0,g1,rfl⟩,g2,g3,g4⟩:=h
    have hK8:∀z,S2 z≠.free→S8 z=S2 z:=fun z hz=>by
     rw[g4 z (by rw[HK7.out z hz];exact hz) (fun h=>by
      rcases h with h|h|⟨h,_⟩
      ·exact aQ hz HFR.out.2.1 h
      ·exact aQ hz HFR.out.1 h
      ·exact h rfl)]
     exact HK7.out z hz
    have hgf:AL≠[]→S2 g=.free:=fun h=>by
     have h2:=g2 g (.inr (.inr ⟨h,rfl⟩))
     have h3:S7 g=.free→S2 g=.free:=fun h4=>by
      by_cases h5:S2 g=.free
      ·exact h5
      ·rw[HK7.out g h5]at h4;exact absurd h4 h5
     rcases h2 with (h2|h2|⟨h2,_⟩)|h2
     ·rw[h2];exact HFR.out.2.1
     ·rw[h2];exact HFR.out.1
     ·exact absurd rfl h2
     ·exact h3 h2
    have HK9:Hid (∀z,t z≠.free→S8 z=t z∧z≠tb∧(AL≠[]→z≠g)):=Lib.hid fun z hz=>by
     have h2:S2 z≠.free:=by rw[HK2.out z hz];exact hz
     exact⟨(hK8 z h2).trans (HK2.out z hz),aQ h2 HFR.out.2.1,fun h=>aQ h2 (hgf h)⟩
    have q0:=g0
    have q1:=g1.o
    have q2:=g1.r
    have hnotF:=Bi g0 g1
    have HG1:=Lib.hid g1
    have hBP:∀(R:List (List Int)) (e:Int),((e=0∧Rising R∧R.length≤16384∧∀row,row∈R↔row∈eH (cH x l) vs rb)∨(e=2∧R=[]∧∃L:List (List Int),L.Nodup∧16384<L.length∧∀row,row∈L→row∈eH (cH x l) vs rb))→ej x (j:Int) l R e:=fun R e h=>by
     unfold ej
     rw[if_neg (by simp[HV.out]),if_neg (fun h=>h ⟨HNM.out,HTT.out⟩),hVS]
     exact⟨j,⟨rh,rb⟩,rfl,HR.out,HSN.out,h⟩
    have HBP:=Lib.hid hBP
    clear wc g0 g1 g2 g3 g4 hK8 hgf HK7 hBP
    by_cases hbig:16384<AL.length
    ·have hbT:((16384:Int)<(AL.length:Int))=True:=eq_true (by omega)
     have HP:=Lib.hid (HBP.out [] 2 (.inr ⟨rfl,rfl,AL,HRUN.out.nd,hbig,fun row hr=>(HRUN.out.src row hr).resolve_left (by simp)⟩))
     simp only[go_sem,seval]
     (repeat'(first|refine Ctl ?_|((with_reducible refine Kof.use hK ?_);clear hK hE K E)|((with_reducible refine aj (fun h=>?_) (fun h=>?_))<;>(try(exfalso;assumption)))|(((with_reducible refine ae fun K E hK hE=>?_))<;>(try simp(disch:=omega) only[go_sem,seval,dE,hbT, *]))))
     all_goals(refine ap I1 hQ ?_)
     all_goals exact⟨_,t,Wk.tup2,ib fun z hz=>(HK9.out z hz).1,([],2),rfl,rfl,HP.out⟩
    ·have hbT:((16384:Int)<(AL.length:Int))=False:=eq_false (by omega)
     have HP:=Lib.hid (HBP.out (dA AL) 0 (.inl ⟨rfl,gO _,by rw[oE HRUN.out.nd];omega,fun row=>by
      rw[sortR_mem]
      exact⟨fun h=>(HRUN.out.src row h).resolve_left (by simp),fun h=>HRUN.out.full (by omega) row h⟩⟩))
     by_cases hnil:AL=[]
     ·have hn1:d9 AL g=.raw (.slice none 0 0):=by rw[hnil];rfl
      have ws:=fun s=>C8 s []
      have hn0:AL.length=0:=by rw[hnil];rfl
      rw[hn1]at q1
      have HSN2:Hid (dA AL=[]):=Lib.hid (by rw[hnil];rfl)
      simp only[go_sem,seval]
      (repeat'(first|(with_reducible refine Bt 12 ?_)|refine Ctl ?_|((with_reducible refine Kof.use hK ?_);clear hK hE K E)|((with_reducible refine aj (fun h=>?_) (fun h=>?_))<;>(try(exfalso;assumption)))|(((with_reducible first|refine ae fun K E hK hE=>?_|refine ak D2 (ws _) ?_))<;>(try simp(disch:=omega) only[go_sem,seval,dE,hbT, *]))))
      unfold C5
      refine nU (GS.wkobj (ys:=[.lst [] .no,.mp mS]) q1 rfl (fun j z hz=>by
       match j with
       |0=>simp at hz;subst hz;exact⟨_,rfl,og,fun _=>rfl⟩
       |1=>simp at hz;subst hz;exact⟨_,rfl,Wk.refl _,id⟩
       |j+2=>simp at hz)) ?_
      have q3:(S8.set tb (.obj 81 [.lst [] .no,.mp mS])) c=.obj 78 [.ptr tb 0]:=by rw[St.set_other _ _ (fun e=>hnotF (.inl e))];exact q0
      have q4:(S8.set tb (.obj 81 [.lst [] .no,.mp mS])) tb=.obj 81 [.lst [] .no,.mp mS]:=St.set_same _ _ _
      have HK10:Hid (∀z,t z≠.free→(S8.set tb (.obj 81 [.lst [] .no,.mp mS])) z=t z):=Lib.hid fun z hz=>by rw[St.set_other _ _ (HK9.out z hz).2.1];exact(HK9.out z hz).1
      clear q0 q1 q2
      generalize S8.set tb (.obj 81 [.lst [] .no,.mp mS])=S9 at *
      (repeat'(first|refine Ctl ?_|((with_reducible refine Kof.use hK ?_);clear hK hE K E)|(((with_reducible refine ae fun K E hK hE=>?_))<;>(try simp(disch:=omega) only[go_sem,seval, *]))))
      all_goals(refine ap I1 hQ ?_)
      all_goals exact⟨_,t,Wk.refl _,ib HK10.out,(dA AL,0),by rw[HSN2.out];rfl,rfl,HP.out⟩
     ·have q2':=q2 hnil
      have hpos:0<AL.length:=by
       cases hyy:AL with
       |nil=>exact absurd hyy hnil
       |cons a l=>simp
      have hn1:=jZ (g:=g) hpos
      rw[hn1]at q1
      have ws:=fun s hs=>Id AL g 48 (by omega) HRUN.out.nd (fun r hr=>by have:=(HG1.out.s r hr).1;omega) s hs
      have hslen:((dA AL).map bV).length=AL.length:=by rw[List.length_map];exact oE HRUN.out.nd
      have HFZ:Hid (((dA AL).map bV).map (fun y=>[y])=aD (dA AL)):=Lib.hid wY
      generalize (dA AL).map bV=SRT at *
      simp only[go_sem,seval]
      (repeat'(first|(with_reducible refine Bt 12 ?_)|refine Ctl ?_|((with_reducible refine Kof.use hK ?_);clear hK hE K E)|((with_reducible refine aj (fun h=>?_) (fun h=>?_))<;>(try(exfalso;assumption)))|(((with_reducible first|refine ae fun K E hK hE=>?_|refine ak D2 (ws _ ab) ?_))<;>(try simp(disch:=omega) only[go_sem,seval,dE,hbT, *]))))
      unfold C5
      have n34:¬ tb=g:=fe q2' q1 (by intros;simp)
      have ncg:¬ c=g:=fe q2' q0 (by intros;simp)
      have hzb:(S8.set g (.row 48 1 SRT)) tb=.obj 81 [.mrw g AL.length,.mp mS]:=by rw[St.set_other _ _ n34];exact q1
      have hg:=GSg.frz (i:=0) hzb rfl (St.set_same _ _ _) hslen
      rw[St.set_set,HFZ.out]at hg
      refine Ij hg ?_
      simp only[List.set_cons_zero]
      have q3:((S8.set g .free).set tb (.obj 81 [.lst (aD (dA AL)) .no,.mp mS])) c=.obj 78 [.ptr tb 0]:=by rw[St.set_other _ _ (fun e=>hnotF (.inl e)),St.set_other _ _ ncg];exact q0
      have q4:((S8.set g .free).set tb (.obj 81 [.lst (aD (dA AL)) .no,.mp mS])) tb=.obj 81 [.lst (aD (dA AL)) .no,.mp mS]:=St.set_same _ _ _
      have HK10:Hid (∀z,t z≠.free→((S8.set g .free).set tb (.obj 81 [.lst (aD (dA AL)) .no,.mp mS])) z=t z):=Lib.hid fun z hz=>by rw[St.set_other _ _ (HK9.out z hz).2.1,St.set_other _ _ ((HK9.out z hz).2.2 hnil)];exact(HK9.out z hz).1
      clear q0 q1 q2 hzb hg
      generalize (S8.set g .free).set tb (.obj 81 [.lst (aD (dA AL)) .no,.mp mS])=S9 at *
      generalize hRS:aD (dA AL)=RS at *
      (repeat'(first|refine Ctl ?_|((with_reducible refine Kof.use hK ?_);clear hK hE K E)|(((with_reducible refine ae fun K E hK hE=>?_))<;>(try simp(disch:=omega) only[go_sem,seval, *]))))
      all_goals(refine ap I1 hQ ?_)
      all_goals exact⟨_,t,Wk.refl _,ib HK10.out,(dA AL,0),by rw[← hRS],rfl,HP.out⟩
  ·rw[decide_eq_false hnm]at w3
   have HP:Hid (ej x (j:Int) l [] 1):=Lib.hid (by
    unfold ej
    rw[if_neg (by simp[HV.out]),if_pos (fun h=>hnm h.1)]
    exact⟨rfl,rfl⟩)
   have HK1:=Lib.hid hK1
   clear g1 g2 g3 g4 hK1 hMf hb
   simp only[go_sem,seval]
   (repeat'(first|refine Ctl ?_|((with_reducible refine Kof.use hK ?_);clear hK hE K E)|((with_reducible refine aj (fun h=>?_) (fun h=>?_))<;>(try(exfalso;assumption)))|(((with_reducible first|refine ae fun K E hK hE=>?_|refine ak Bh (w3 _) ?_))<;>(try simp(disch:=omega) only[go_sem,seval, *]))))
   all_goals(refine ap I1 hQ ?_)
   all_goals exact⟨_,t,Wk.tup2,ib HK1.out,([],1),rfl,rfl,HP.out⟩
 ·have HP:Hid (ej x k l [] (varsP x k).2):=Lib.hid (by unfold ej;rw[if_pos hv];exact⟨rfl,rfl⟩)
  unfold yi at w1
  generalize hVP:varsP x k=VP at *
  have hvT:(VP.2=0)=False:=eq_false hv
  obtain⟨⟨v1,v2⟩,e⟩:=VP
  simp only at hvT w1 HP
  simp only[pgC]at w1 ⊢
  clear hv hVP
  refine av Tryz.func21 rfl Tryz.ntmps21 rfl fun Q hQ hQe=>?_
  (repeat'(first|refine Ctl ?_|((with_reducible refine Kof.use hK ?_);clear hK hE K E)|((with_reducible refine aj (fun h=>?_) (fun h=>?_))<;>(try(exfalso;assumption)))|((first|(with_reducible first|refine ae fun K E hK hE=>?_|refine ak KZ (w1 _) ?_)|((with_reducible refine ao (fun b hb=>?_))))<;>(try simp(disch:=omega) only[go_sem,seval,hvT, *]))))
  all_goals(refine ap I1 hQ ?_)
  all_goals exact⟨_,t,Wk.tup2,bj,([],e),rfl,rfl,HP.out⟩
end Go.Proofs.YteldpmgepfaiiaaGreatDoor
namespace Go.Proofs.YteldpmgepfaiiaaGreatDoor
open Go.RowKit
attribute [local go_sem] aN aX cG
theorem Conc.call {x:Pgm}{M:List UInt8→List (List Int)}(h:Conc x M)(hx:PgmOk x)(hd:∀d,d∈x.doms→d.size≤256)(hle:∀n,(M n).length≤16384)(oL:Own)(t:St) :
  SRet Tryz.prog 14 [.agg (pgC x),.lst [] oL] t (.tup [.lst (x.decls.map fun d=>aZ ⟨d.name,M d.name⟩) .no,.int .i64 0]) t:=by
 refine SCalls.mono (wD x [] oL hx hd (by simp) (fun t ht=>by cases ht) t) ?_
 rintro w u ⟨q,rfl,rfl,hp⟩
 rcases h.eval hp with ⟨h1,h2,_⟩|⟨_,_,n,h3⟩
 ·rw[h1,h2,List.map_map]
  exact⟨rfl,rfl⟩
 ·have:=hle n
  omega
theorem sZ {r:List Int}{o:Own}:WkL [.lst (ay r) o] [bV r]:=.lst _ _ .nil
theorem rm:iU [[1,2],[1,3],[2,3]]:=⟨by decide,fun r hr=>by simp only[List.mem_cons,List.not_mem_nil,or_false]at hr;rcases hr with rfl|rfl|rfl<;>decide⟩
set_option maxHeartbeats 4000000 in
theorem sV (s:St):SRet Tryz.prog 12 [] s (.bool true) s:=by
 have p1:=fun s=>A0 [100,111,109,32,86,32,52,46,32,114,101,108,32,101,40,86,44,86,41,46,32,114,101,108,32,112,40,86,44,86,41,46,32,101,40,49,44,50,41,46,32,101,40,50,44,51,41,46,32,112,40,120,44,121,41,58,45,101,40,120,44,121,41,46,32,112,40,120,44,122,41,58,45,112,40,120,44,121,41,44,101,40,121,44,122,41,46] (by decide) w13 w13T s
 have p2:=fun o s=>w13c.call Iq (by intro d hd;simp[w13]at hd;subst hd;decide) (fun n=>by unfold m13;split;decide;split;decide;decide) o s
 have p3:∀s,SRet Tryz.prog 22 [.lst (aD [[1,2],[1,3],[2,3]]) .no,.lst [[.lst (ay [1,2]) .full],[.lst (ay [1,3]) .full],[.lst (ay [2,3]) .full]] .full] s (.bool true) s:=fun s=>by
  have h:=nP [[1,2],[1,3],[2,3]] [[1,2],[1,3],[2,3]] .no .full rm rm s
  simp only[decide_true]at h
  exact SCalls.wk h rfl (fun j x y hx hy=>by
  match j with
  |0=>simp at hx hy;subst hx;subst hy;exact Wk.refl _
  |1=>
   simp at hx hy;subst hx;subst hy
   refine Wk.rows rfl fun i x' hi=>?_
   match i with
   |0=>simp[aD]at hi;subst hi;exact⟨_,rfl,sZ⟩
   |1=>simp[aD]at hi;subst hi;exact⟨_,rfl,sZ⟩
   |2=>simp[aD]at hi;subst hi;exact⟨_,rfl,sZ⟩
   |i+3=>simp[aD]at hi
  |j+2=>simp at hx)
 have hL:(w13.decls.map fun d=>aZ ⟨d.name,m13 d.name⟩)=[[.str [101],.lst (aD [[1,2],[2,3]]) .no],[.str [112],.lst (aD [[1,2],[1,3],[2,3]]) .no]]:=rfl
 rw[hL]at p2
 simp only[pgC,ay,List.map_cons,List.map_nil,decide_true]at p1 p2 p3
 generalize w13.doms.map dmC=x1 at p1 p2
 generalize w13.decls.map aB=x2 at p1 p2
 generalize w13.rules.map az=x3 at p1 p2
 generalize aD [[1,2],[1,3],[2,3]]=R2 at p2 p3
 refine av Tryz.func12 rfl Tryz.ntmps12 rfl fun Q hQ hQe=>?_
 (repeat'(first|refine Ctl ?_|((with_reducible refine Kof.use hK ?_);clear hK hE K E)|((first|(with_reducible first|refine ae fun K E hK hE=>?_|refine ak K7 (p1 _) ?_|refine ak D7 (p2 _ _) ?_|refine ak D5 (p3 _) ?_)|((with_reducible refine ao (fun b hb=>?_))))<;>(try simp(disch:=omega) only[go_sem,seval,List.append_eq, *]))))
 all_goals(refine ap DP hQ ?_)
 all_goals(refine⟨_,_,Wk.of_eq ?_,?_,rfl,rfl⟩)
 all_goals first|rfl|(exact bj)
end Go.Proofs.YteldpmgepfaiiaaGreatDoor
