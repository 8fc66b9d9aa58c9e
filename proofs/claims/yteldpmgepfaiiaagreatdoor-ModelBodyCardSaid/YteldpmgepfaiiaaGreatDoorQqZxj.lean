/- Walks of functions that the claim reaches, and plain facts of them. Conditions: those in the statements. -/
import Derived.Test.YteldpmgepfaiiaaGreatDoorQqZgj
import Derived.Test.YteldpmgepfaiiaaGreatDoorQqYnj
import Derived.Test.YteldpmgepfaiiaaGreatDoorQqYij
import Derived.Test.YteldpmgepfaiiaaGreatDoorQqRunj
import Derived.Test.YteldpmgepfaiiaaGreatDoorQqWqj
set_option linter.unusedSimpArgs false
set_option linter.unusedVariables false
set_option maxRecDepth 100000
namespace Go.Proofs.YteldpmgepfaiiaaGreatDoor
open Go.RowKit
attribute [local go_sem] aN aX cG
def en (x:Pgm):List Dcl→List Tbl→Bool
 |d::ds,t::l=>decide (t.nm=d.name) && dt x.doms d.doms none t.rs && en x ds l
 |[],[]=>true
 |_,_=>false
theorem xg {x:Pgm}{ds:List Dcl}{l:List Tbl}{i:Nat}{d:Dcl}{t:Tbl}(h1:ds[i]?=some d)(h2:l[i]?=some t):en x (ds.drop i) (l.drop i)=(decide (t.nm=d.name) && dt x.doms d.doms none t.rs && en x (ds.drop (i+1)) (l.drop (i+1))):=by
 obtain⟨g1,rfl⟩:=List.getElem?_eq_some_iff.1 h1
 obtain⟨g2,rfl⟩:=List.getElem?_eq_some_iff.1 h2
 rw[List.drop_eq_getElem_cons g1,List.drop_eq_getElem_cons g2]
 rfl
theorem jo {x:Pgm}:∀{ds:List Dcl} {l:List Tbl},en x ds l=true→l.length=ds.length
 |[],[],_=>rfl
 |[],_::_,h=>by cases h
 |_::_,[],h=>by cases h
 |d::ds,t::l,h=>by
  simp only[en,Bool.and_eq_true]at h
  have:=jo h.2
  simp[this]
theorem ur {x:Pgm}(hn:(x.decls.map (·.name)).Nodup){l:List Tbl}:en x x.decls l=true↔l.map (·.nm)=x.decls.map (·.name)∧cV x [] l=true:=by
 have key:∀(l:List Tbl) (i:Nat),en x (x.decls.drop i) l=true↔l.map (·.nm)=(x.decls.drop i).map (·.name)∧cV x ((x.decls.take i).map (·.name)) l=true:=by
  intro l
  induction l with
  |nil=>
   intro i
   cases hd:x.decls.drop i with
   |nil=>simp[en,cV]
   |cons d ds=>simp[en]
  |cons t l ih=>
   intro i
   cases hd:x.decls.drop i with
   |nil=>simp[en]
   |cons d ds=>
    have hlt:i<x.decls.length:=by
     rcases Nat.lt_or_ge i x.decls.length with h|h
     ·exact h
     ·rw[List.drop_eq_nil_of_le h]at hd;cases hd
    have hdi:x.decls[i]?=some d:=by
     have:(x.decls.drop i)[0]?=some d:=by rw[hd];rfl
     rw[List.getElem?_drop]at this
     simpa using this
    have hds:x.decls.drop (i+1)=ds:=by
     rw[List.drop_eq_getElem_cons hlt]at hd
     injection hd with _ h
    have ih':=ih (i+1)
    rw[hds]at ih'
    simp only[en,Bool.and_eq_true,decide_eq_true_eq,List.map_cons,List.cons.injEq]
    have hni:(x.decls.map (·.name))[i]?=some d.name:=by rw[List.getElem?_map,hdi];rfl
    have hrel:=g9 hn hni
    have hseen:d.name∉(x.decls.take i).map (·.name):=fun h=>by
     obtain⟨j,hj⟩:=List.mem_iff_getElem?.1 h
     rw[List.map_take]at hj
     have hji:j<i:=by have:=(List.getElem?_eq_some_iff.1 hj).1;rw[List.length_take]at this;omega
     rw[List.getElem?_take_of_lt hji]at hj
     have:=(List.getElem?_inj (List.getElem?_eq_some_iff.1 hj).1 hn).1 (hj.trans hni.symm)
     omega
    have htk:(x.decls.take (i+1)).map (·.name)=(x.decls.take i).map (·.name)++[d.name]:=by rw[b9 hdi,List.map_append];rfl
    rw[htk]at ih'
    constructor
    ·rintro⟨⟨h1,h2⟩,h3⟩
     have h4:=ih'.1 h3
     refine⟨⟨h1,h4.1⟩,?_⟩
     simp only[cV]
     rw[h1,show cW x.decls d.name=some i from hrel]
     simp only[hdi,h2,h4.2,decide_eq_false hseen,Bool.not_false,Bool.and_self]
    ·rintro⟨⟨h1,h2⟩,h3⟩
     simp only[cV]at h3
     rw[h1,show cW x.decls d.name=some i from hrel]at h3
     simp only[hdi,Bool.and_eq_true]at h3
     exact⟨⟨h1,h3.1.2⟩,ih'.2 ⟨h2,h3.2⟩⟩
 have:=key l 0
 simpa using this
set_option maxHeartbeats 8000000 in
theorem td (x:Pgm)(l:List Tbl)(oL:Own)(hx:PgmOk x)(hll:l.length≤1000000)(hrt:∀tb,tb∈l→tb.rs.length≤1000000∧∀r,r∈tb.rs→r.length≤1000000)(t:St) :
  SRet Tryz.prog 44 [.agg (pgC x),.lst (l.map aZ) oL] t (.bool (en x x.decls l)) t:=by
 have w2:=fun d tb (h1:d∈x.decls) (h2:tb∈l) s=>Dh x d tb hx (hx.2.2.2.2.1 d h1).2.1 (hrt tb h2) s
 have hll1:(l.map aZ).length=l.length:=by simp
 have hcl:(x.decls.map aB).length=x.decls.length:=by simp
 have hcl2:=hx.2.1
 by_cases hlen:l.length=x.decls.length
 ·have hlenT:((l.length:Int)=(x.decls.length:Int))=True:=eq_true (by omega)
  generalize hB:en x x.decls l=B
  have HB:Hid (en x (x.decls.drop 0) (l.drop 0)=B):=Lib.hid hB
  have W2:=Lib.hid w2
  clear hB w2 hrt
  simp only[pgC]at W2 ⊢
  refine av Tryz.func44 rfl Tryz.ntmps44 rfl fun Q hQ hQe=>?_
  (repeat'(first|refine Ctl ?_|((with_reducible refine Kof.use hK ?_);clear hK hE K E)|((with_reducible refine aj (fun h=>?_) (fun h=>?_))<;>(try(exfalso;assumption)))|((first|(with_reducible refine ae fun K E hK hE=>?_)|((with_reducible refine ao (fun b hb=>?_))))<;>(try simp(disch:=omega) only[go_sem,seval,hll1,hcl,hlenT, *]))))
  obtain⟨b2,hb2⟩:∃z,z=b:=⟨_,rfl⟩
  subst hb2
  have q2:(t.set b2 (.obj 26 [.lst (x.doms.map dmC) .no,.lst (x.decls.map aB) .no,.lst (x.rules.map az) .no])) b2=.obj 26 [.lst (x.doms.map dmC) .no,.lst (x.decls.map aB) .no,.lst (x.rules.map az) .no]:=St.set_same _ _ _
  have HF:Hid (Fg (t.set b2 (.obj 26 [.lst (x.doms.map dmC) .no,.lst (x.decls.map aB) .no,.lst (x.rules.map az) .no])) t):=Lib.hid (Fg.of_set _ hb)
  generalize t.set b2 (.obj 26 [.lst (x.doms.map dmC) .no,.lst (x.decls.map aB) .no,.lst (x.rules.map az) .no])=S at *
  clear hb
  refine bi (fun m env s'=>∃(i:Nat),i≤l.length∧m+i=l.length∧S=s'∧Hid (en x (x.decls.drop i) (l.drop i)=B)∧env 1=.lst (l.map aZ) oL∧env 2=.ptr b2 0∧env 5=.int .i64 i) l.length ?_ ?_
  ·exact⟨0,by omega,by omega,rfl,HB,ab,ab,ab⟩
  clear HB
  rintro m env s' ⟨i,hi,hm,he0,HB,e1,e2,e5⟩
  subst he0
  by_cases hlt:i<l.length
  ·obtain⟨tb,htb⟩:=aO hlt
   obtain⟨d,hd⟩:∃d,x.decls[i]?=some d:=aO (by omega)
   have hst:=em htb
   have hsd:=c9 hd
   have hBd:=HB.out
   rw[xg hd htb]at hBd
   have w4:=W2.out d tb (List.mem_of_getElem? hd) (List.mem_of_getElem? htb)
   have hlt2:i<x.decls.length:=by omega
   obtain⟨tn,trs⟩:=tb
   obtain⟨dn,dd⟩:=d
   simp only[aZ,aB]at hst hsd w4
   simp only at hBd
   clear htb hd HB
   generalize dt x.doms dd none trs=FB at *
   by_cases hen:tn=dn
   ·have henT:(tn=dn)=True:=eq_true hen
    rw[decide_eq_true hen]at hBd
    cases FB with
    |false=>
     have HBN:Hid (B=false):=Lib.hid (by rw[← hBd];rfl)
     clear hBd hen
     (repeat'(first|refine Ctl ?_|(with_reducible first|(refine Kof.use hK ?_;clear hK hE K E)|(refine Kof.use hKh ?_;clear hKh Kh)|(refine Kof.use hKb (aK ?_);clear hKb Kb)|refine au 6 [([0,1,2,3,4,5,6,7,8,9,10,11,12,13,14,15,16,17,18,19,20,21,22],23,[[]])] [24,25] hQe fun K E hK hE=>?_)|((with_reducible refine aj (fun h=>?_) (fun h=>?_))<;>(try(exfalso;assumption)))|(((with_reducible first|refine ae fun K E hK hE=>?_|refine ak D0 (w4 _) ?_|refine aE fun Kh hKh=>?_|refine aC fun Kh hKh=>?_|refine aL fun Kb hKb=>?_))<;>(try simp(disch:=omega) only[go_sem,seval,hll1,hcl,hst,hsd,henT, *]))))
     all_goals(refine ap IW hQ ?_)
     all_goals rw[HBN.out]
     all_goals exact⟨_,_,Wk.refl _,HF.out,rfl,rfl⟩
    |true=>
     have HBN:Hid (en x (x.decls.drop (i+1)) (l.drop (i+1))=B):=Lib.hid (by rw[← hBd];rfl)
     clear hBd hen
     (repeat'(first|refine Ctl ?_|(with_reducible first|(refine Kof.use hK ?_;clear hK hE K E)|(refine Kof.use hKh ?_;clear hKh Kh)|(refine Kof.use hKb (aK ?_);clear hKb Kb)|refine au 6 [([0,1,2,3,4,5,6,7,8,9,10,11,12,13,14,15,16,17,18,19,20,21,22],23,[[]])] [24,25] hQe fun K E hK hE=>?_)|((with_reducible refine aj (fun h=>?_) (fun h=>?_))<;>(try(exfalso;assumption)))|(((with_reducible first|refine ae fun K E hK hE=>?_|refine ak D0 (w4 _) ?_|refine aE fun Kh hKh=>?_|refine aC fun Kh hKh=>?_|refine aL fun Kb hKb=>?_))<;>(try simp(disch:=omega) only[go_sem,seval,hll1,hcl,hst,hsd,henT, *]))))
     all_goals exact⟨m - 1,by omega,i+1,by omega,by omega,rfl,HBN,ab,ab,ab⟩
   ·have henT:(tn=dn)=False:=eq_false hen
    rw[decide_eq_false hen]at hBd
    have HBN:Hid (B=false):=Lib.hid (by rw[← hBd];rfl)
    clear hBd hen
    (repeat'(first|refine Ctl ?_|(with_reducible first|(refine Kof.use hK ?_;clear hK hE K E)|(refine Kof.use hKh ?_;clear hKh Kh)|(refine Kof.use hKb (aK ?_);clear hKb Kb)|refine au 6 [([0,1,2,3,4,5,6,7,8,9,10,11,12,13,14,15,16,17,18,19,20,21,22],23,[[]])] [24,25] hQe fun K E hK hE=>?_)|((with_reducible refine aj (fun h=>?_) (fun h=>?_))<;>(try(exfalso;assumption)))|(((with_reducible first|refine ae fun K E hK hE=>?_|refine aE fun Kh hKh=>?_|refine aC fun Kh hKh=>?_|refine aL fun Kb hKb=>?_))<;>(try simp(disch:=omega) only[go_sem,seval,hll1,hcl,hst,hsd,henT, *]))))
    all_goals(refine ap IW hQ ?_)
    all_goals rw[HBN.out]
    all_goals exact⟨_,_,Wk.refl _,HF.out,rfl,rfl⟩
  ·obtain rfl:i=l.length:=by omega
   have hB:B=true:=by
    have h:=HB.out
    rw[List.drop_length,hlen,List.drop_length]at h
    rw[← h];rfl
   subst hB
   (repeat'(first|refine Ctl ?_|((with_reducible refine Kof.use hK ?_);clear hK hE K E)|((with_reducible refine aj (fun h=>?_) (fun h=>?_))<;>(try(exfalso;omega)))|(((with_reducible refine ae fun K E hK hE=>?_))<;>(try simp(disch:=omega) only[go_sem,seval,hll1,hcl, *]))))
   all_goals(refine ap IW hQ ?_)
   all_goals exact⟨_,_,Wk.refl _,HF.out,rfl,rfl⟩
 ·have hlenT:((l.length:Int)=(x.decls.length:Int))=False:=eq_false (by omega)
  have hB:en x x.decls l=false:=by
   cases h:en x x.decls l with
   |false=>rfl
   |true=>exact absurd (jo h) hlen
  rw[hB]
  clear w2 hrt hB
  simp only[pgC]
  refine av Tryz.func44 rfl Tryz.ntmps44 rfl fun Q hQ hQe=>?_
  (repeat'(first|refine Ctl ?_|((with_reducible refine Kof.use hK ?_);clear hK hE K E)|((with_reducible refine aj (fun h=>?_) (fun h=>?_))<;>(try(exfalso;assumption)))|((first|(with_reducible refine ae fun K E hK hE=>?_)|((with_reducible refine ao (fun b hb=>?_))))<;>(try simp(disch:=omega) only[go_sem,seval,hll1,hcl,hlenT, *]))))
  all_goals(refine ap IW hQ ?_)
  all_goals exact⟨_,t,Wk.refl _,Fg.of_set _ hb,rfl,rfl⟩
def cK (x:Pgm)(k:Int)(l:List Tbl)(R:List (List Int))(e:Int):Prop:=
 if (varsP x k).2≠0 then R=[]∧e=(varsP x k).2
 else if ¬ (l.map (·.nm)=x.decls.map (·.name)∧cV x [] l=true)then R=[]∧e=1
 else ∃(j:Nat) (r:Rul) (OUT:List (List Int)),k=(j:Int)∧x.rules[j]?=some r∧RulSnd x r (varsP x k).1.vs∧TdOk x l∧sE (cH x l) (varsP x k).1.vs 131072 r.body=some OUT∧(if 16384<OUT.length then R=[]∧e=2 else R=OUT∧e=0)
theorem it {T:Tbs}{vs:List (List UInt8)}{most:Nat}{b:List Atm}{OUT:List (List Int)}(h:sE T vs most b=some OUT):Rising OUT:=by
 unfold sE at h
 cases hR:eC T vs most b [cJ vs]with
 |none=>rw[hR]at h;cases h
 |some R=>
  rw[hR]at h
  injection h with h
  subst h
  exact gO _
theorem w6 {x:Pgm}{l:List Tbl}(hds:∀d,d∈x.doms→d.size≤256)(hdd:∀d,d∈x.decls→d.doms.length≤100000)(hn:(x.decls.map (·.name)).Nodup)(hl:l.map (·.nm)=x.decls.map (·.name))(hT:cV x [] l=true)(hrs:∀t,t∈l→t.rs.length≤100000):TdOk x l:=by
 refine⟨by have:=congrArg List.length hl;simpa using this,fun k y d hy hd r hr=>?_,hrs⟩
 obtain⟨k',d',h1,h2,_,h4⟩:=dN hT y (List.mem_of_getElem? hy)
 have hnm:(x.decls.map (·.name))[k]?=some y.nm:=by rw[← hl,List.getElem?_map,hy];rfl
 have h5:=g9 hn hnm
 have h6:k'=k:=by have:=h1.symm.trans (show cW x.decls y.nm=some k from h5);injection this
 subst h6
 rw[hd]at h2
 injection h2 with h2
 subst h2
 obtain⟨g1,g2⟩:=kY h4 r hr
 exact⟨g1,j0 hds g2 g1 (hdd d (List.mem_of_getElem? hd))⟩
theorem sU {x:Pgm}{k:Int}{l:List Tbl}{R R':List (List Int)}{e e':Int}(h:cK x k l R e)(h':ej x k l R' e'):R'=R∧e'=e:=by
 unfold cK at h
 unfold ej at h'
 by_cases hv:(varsP x k).2≠0
 ·rw[if_pos hv]at h h'
  exact⟨h'.1.trans h.1.symm,h'.2.trans h.2.symm⟩
 ·rw[if_neg hv]at h h'
  by_cases ht:l.map (·.nm)=x.decls.map (·.name)∧cV x [] l=true
  ·rw[if_neg (fun h=>h ht)]at h h'
   obtain⟨j,r,OUT,rfl,hr,hs,htd,hb,hif⟩:=h
   obtain⟨j',r',hj,hr',hs',hp⟩:=h'
   have hjj:j=j':=by omega
   subst hjj
   rw[hr]at hr'
   injection hr' with hr'
   subst hr'
   have hm:=(xO htd hs hb).2
   have hris:=it hb
   by_cases hbig:16384<OUT.length
   ·rw[if_pos hbig]at hif
    rcases hp with ⟨_,g1,g2,g3⟩|⟨g1,g2,_⟩
    ·have:=p9 hris.nodup fun q hq=>(g3 q).2 ((hm q).1 hq)
     omega
    ·exact⟨g2.trans hif.1.symm,g1.trans hif.2.symm⟩
   ·rw[if_neg hbig]at hif
    rcases hp with ⟨g0,g1,g2,g3⟩|⟨_,_,L,g1,g2,g3⟩
    ·refine⟨?_,g0.trans hif.2.symm⟩
     rw[hif.1]
     exact gz g1 hris fun q=>by rw[g3,hm]
    ·have:=p9 g1 fun q hq=>(hm q).2 (g3 q hq)
     omega
  ·rw[if_pos ht]at h h'
   exact⟨h'.1.trans h.1.symm,h'.2.trans h.2.symm⟩
theorem fx {x:Pgm}{k:Int}{l:List Tbl}{R:List (List Int)}{e:Int}(h:cK x k l R e):iU R:=by
 have h0:iU []:=⟨by simp,fun r hr=>by cases hr⟩
 unfold cK at h
 by_cases hv:(varsP x k).2≠0
 ·rw[if_pos hv]at h;rw[h.1];exact h0
 ·rw[if_neg hv]at h
  by_cases ht:l.map (·.nm)=x.decls.map (·.name)∧cV x [] l=true
  ·rw[if_neg (fun h=>h ht)]at h
   obtain⟨j,r,OUT,rfl,hr,hs,htd,hb,hif⟩:=h
   obtain⟨hle,hm⟩:=xO htd hs hb
   by_cases hbig:16384<OUT.length
   ·rw[if_pos hbig]at hif;rw[hif.1];exact h0
   ·rw[if_neg hbig]at hif
    rw[hif.1]
    refine⟨by omega,fun q hq=>?_⟩
    have:=(htd.sml hs ((hm q).1 hq)).2.2
    have:=hs.vl
    omega
  ·rw[if_pos ht]at h;rw[h.1];exact h0
set_option maxHeartbeats 8000000 in
theorem wE (x:Pgm)(k:Int)(l:List Tbl)(oL:Own)(hx:PgmOk x)(hds:∀d,d∈x.doms→d.size≤256)(hll:l.length≤100000)(hrs:∀t,t∈l→t.rs.length≤100000∧∀r,r∈t.rs→r.length≤100000)(t:St) :
  SCalls Tryz.prog 20 [.agg (pgC x),.int .i64 k,.lst (l.map aZ) oL] t fun w u=>∃q:List (List Int)×Int×Bool,w=.ret (.tup [.lst (aD q.1) .no,.int .i64 q.2.1,.bool q.2.2])∧u=t∧(q.2.2=true→cK x k l q.1 q.2.1):=by
 have w1:=fun s=>tj x k hx s
 have w2:=fun s=>td x l oL hx (by omega) (fun t ht=>⟨by have:=(hrs t ht).1;omega,fun r hr=>by have:=(hrs t ht).2 r hr;omega⟩) s
 by_cases hv:(varsP x k).2=0
 ·obtain⟨hs,j,r,rfl,hr⟩:=qN hv
  obtain⟨st,hsp,hr0,hb0,hst⟩:=eW hs
  have hnd:=vj hr0
  have hsnd:=jA hds hs hr
  have hdd:∀d,d∈x.decls→d.doms.length≤100000:=fun d hd=>by
   have hp:=dQ hr0
   unfold cE at hp
   simp only[Bool.and_eq_true,List.all_eq_true]at hp
   have:=hp.1.2 d hd
   unfold eO at this
   simp only[Bool.and_eq_true,decide_eq_true_eq]at this
   omega
  have hsr:=fm hr
  have hlr:(x.rules.map az).length=x.rules.length:=by simp
  have hjl:j<x.rules.length:=(List.getElem?_eq_some_iff.1 hr).1
  have htE:=ur (x:=x) hnd.2 (l:=l)
  unfold yi at w1
  rw[hv]at w1
  cases hT:en x x.decls l with
  |false=>
   rw[hT]at w2
   have HP:Hid (cK x (j:Int) l [] 1):=Lib.hid (by
    unfold cK
    rw[if_neg (by simp[hv]),if_pos (fun h=>by rw[htE.2 h]at hT;cases hT)]
    exact⟨rfl,rfl⟩)
   generalize (varsP x (j:Int)).1=VP at *
   obtain⟨v1,v2⟩:=VP
   simp only at w1
   simp only[pgC]at w1 w2 ⊢
   clear hr hv hr0 hb0 hst hsp htE hsnd
   refine av Tryz.func20 rfl Tryz.ntmps20 rfl fun Q hQ hQe=>?_
   (repeat'(first|refine Ctl ?_|((with_reducible refine Kof.use hK ?_);clear hK hE K E)|((with_reducible refine aj (fun h=>?_) (fun h=>?_))<;>(try(exfalso;assumption)))|((first|(with_reducible first|refine ae fun K E hK hE=>?_|refine ak kh (w1 _) ?_|refine ak rM (w2 _) ?_)|((with_reducible refine ao (fun b hb=>?_))))<;>(try simp(disch:=omega) only[go_sem,seval, *]))))
   all_goals(refine ap I2 hQ ?_)
   all_goals exact⟨_,t,Wk.tup3,bj,([],1,true),rfl,rfl,fun _=>HP.out⟩
  |true=>
   rw[hT]at w2
   obtain⟨hl1,hl2⟩:=htE.1 hT
   have htd:=w6 hds hdd hnd.2 hl1 hl2 fun t ht=>(hrs t ht).1
   have w3:∀o1 s,SRet Tryz.prog 45 [.agg (pgC x),.agg (az r),.lst (aw (varsP x (j:Int)).1.vs) o1,.lst (l.map aZ) oL,.int .i64 131072] s (AU (sE (cH x l) (varsP x (j:Int)).1.vs 131072 r.body)) s:=fun o1 s=>Dl x r (varsP x (j:Int)).1.vs l 131072 o1 oL hx hsnd htd (by omega) s
   have HP:Hid (∀OUT R e,sE (cH x l) (varsP x (j:Int)).1.vs 131072 r.body=some OUT→(if 16384<OUT.length then R=[]∧e=2 else R=OUT∧e=0)→cK x (j:Int) l R e):=Lib.hid fun OUT R e h1 h2=>by
    unfold cK
    rw[if_neg (by simp[hv]),if_neg (fun h=>h ⟨hl1,hl2⟩)]
    exact⟨j,r,OUT,rfl,hr,hsnd,htd,h1,h2⟩
   obtain⟨rh,rb⟩:=r
   simp only[az]at hsr w3
   simp only at HP
   generalize sE (cH x l) (varsP x (j:Int)).1.vs 131072 rb=OB at *
   generalize (varsP x (j:Int)).1=VP at *
   obtain⟨v1,v2⟩:=VP
   simp only at w1 w3
   simp only[pgC]at w1 w2 w3 ⊢
   clear hr hv hr0 hb0 hst hsp htE hsnd htd hT hl1 hl2
   cases OB with
   |none=>
    simp only[AU]at w3
    refine av Tryz.func20 rfl Tryz.ntmps20 rfl fun Q hQ hQe=>?_
    (repeat'(first|refine Ctl ?_|(with_reducible first|(refine Kof.use hK ?_;clear hK hE K E)|(refine Kof.use hKh ?_;clear hKh Kh)|(refine Kof.use hKb (aK ?_);clear hKb Kb)|refine au 6 [([0,1,2,3,4,5,6,7],8,[[]])] [9,10,11,12,13] hQe fun K E hK hE=>?_)|((with_reducible refine aj (fun h=>?_) (fun h=>?_))<;>(try(exfalso;assumption)))|((first|(with_reducible first|refine ae fun K E hK hE=>?_|refine ak kh (w1 _) ?_|refine ak rM (w2 _) ?_|refine ak DZ (w3 _ _) ?_|refine aE fun Kh hKh=>?_|refine aC fun Kh hKh=>?_|refine aL fun Kb hKb=>?_)|((with_reducible refine ao (fun b hb=>?_))))<;>(try simp(disch:=omega) only[go_sem,seval,hlr,hsr, *]))))
    all_goals(refine ap I2 hQ ?_)
    all_goals exact⟨_,t,Wk.tup3,bj,([],0,false),rfl,rfl,fun h=>by cases h⟩
   |some OUT=>
    simp only[AU]at w3
    have hol:(aD OUT).length=OUT.length:=cL
    by_cases hbig:16384<OUT.length
    ·have hbT:((16384:Int)<(OUT.length:Int))=True:=eq_true (by omega)
     have HP2:=Lib.hid (HP.out OUT [] 2 rfl (by rw[if_pos hbig];exact⟨rfl,rfl⟩))
     generalize aD OUT=RO at *
     refine av Tryz.func20 rfl Tryz.ntmps20 rfl fun Q hQ hQe=>?_
     (repeat'(first|refine Ctl ?_|(with_reducible first|(refine Kof.use hK ?_;clear hK hE K E)|(refine Kof.use hKh ?_;clear hKh Kh)|(refine Kof.use hKb (aK ?_);clear hKb Kb)|refine au 6 [([0,1,2,3,4,5,6,7],8,[[]])] [9,10,11,12,13] hQe fun K E hK hE=>?_)|((with_reducible refine aj (fun h=>?_) (fun h=>?_))<;>(try(exfalso;assumption)))|((first|(with_reducible first|refine ae fun K E hK hE=>?_|refine ak kh (w1 _) ?_|refine ak rM (w2 _) ?_|refine ak DZ (w3 _ _) ?_|refine aE fun Kh hKh=>?_|refine aC fun Kh hKh=>?_|refine aL fun Kb hKb=>?_)|((with_reducible refine ao (fun b hb=>?_))))<;>(try simp(disch:=omega) only[go_sem,seval,hlr,hsr,hol,hbT, *]))))
     all_goals(refine ap I2 hQ ?_)
     all_goals exact⟨_,t,Wk.tup3,bj,([],2,true),rfl,rfl,fun _=>HP2.out⟩
    ·have hbT:((16384:Int)<(OUT.length:Int))=False:=eq_false (by omega)
     have HP2:=Lib.hid (HP.out OUT OUT 0 rfl (by rw[if_neg hbig];exact⟨rfl,rfl⟩))
     have HRO:=Lib.hid (show aD OUT=aD OUT from rfl)
     generalize hRO:aD OUT=RO at *
     refine av Tryz.func20 rfl Tryz.ntmps20 rfl fun Q hQ hQe=>?_
     (repeat'(first|refine Ctl ?_|(with_reducible first|(refine Kof.use hK ?_;clear hK hE K E)|(refine Kof.use hKh ?_;clear hKh Kh)|(refine Kof.use hKb (aK ?_);clear hKb Kb)|refine au 6 [([0,1,2,3,4,5,6,7],8,[[]])] [9,10,11,12,13] hQe fun K E hK hE=>?_)|((with_reducible refine aj (fun h=>?_) (fun h=>?_))<;>(try(exfalso;assumption)))|((first|(with_reducible first|refine ae fun K E hK hE=>?_|refine ak kh (w1 _) ?_|refine ak rM (w2 _) ?_|refine ak DZ (w3 _ _) ?_|refine aE fun Kh hKh=>?_|refine aC fun Kh hKh=>?_|refine aL fun Kb hKb=>?_)|((with_reducible refine ao (fun b hb=>?_))))<;>(try simp(disch:=omega) only[go_sem,seval,hlr,hsr,hol,hbT, *]))))
     all_goals(refine ap I2 hQ ?_)
     all_goals exact⟨_,t,Wk.refl _,bj,(OUT,0,true),by rw[← hRO],rfl,fun _=>HP2.out⟩
 ·have HP:Hid (cK x k l [] (varsP x k).2):=Lib.hid (by unfold cK;rw[if_pos hv];exact⟨rfl,rfl⟩)
  unfold yi at w1
  generalize hVP:varsP x k=VP at *
  have hvT:(VP.2=0)=False:=eq_false hv
  obtain⟨⟨v1,v2⟩,e⟩:=VP
  simp only at hvT w1 HP
  simp only[pgC]at w1 w2 ⊢
  clear hv hVP
  refine av Tryz.func20 rfl Tryz.ntmps20 rfl fun Q hQ hQe=>?_
  (repeat'(first|refine Ctl ?_|((with_reducible refine Kof.use hK ?_);clear hK hE K E)|((with_reducible refine aj (fun h=>?_) (fun h=>?_))<;>(try(exfalso;assumption)))|((first|(with_reducible first|refine ae fun K E hK hE=>?_|refine ak kh (w1 _) ?_)|((with_reducible refine ao (fun b hb=>?_))))<;>(try simp(disch:=omega) only[go_sem,seval,hvT, *]))))
  all_goals(refine ap I2 hQ ?_)
  all_goals exact⟨_,t,Wk.tup3,bj,([],e,true),rfl,rfl,fun _=>HP.out⟩
end Go.Proofs.YteldpmgepfaiiaaGreatDoor
namespace Go.Proofs.YteldpmgepfaiiaaGreatDoor
open Go.RowKit
attribute [local go_sem] aN aX cG
set_option maxHeartbeats 8000000 in
theorem nR (x:Pgm)(hx:PgmOk x)(hf:Im x)(t:St):SCalls Tryz.prog 10 [.agg (pgC x)] t fun w u=>∃r:Bool,w=.ret (.bool r)∧u=t∧(r=true→∀d,d∈x.doms→d.size≤8):=by
 obtain⟨f1,f2,f3,f4,f5⟩:=hf
 have hdl:(x.doms.map dmC).length=x.doms.length:=by simp
 have hcl:(x.decls.map aB).length=x.decls.length:=by simp
 have hrl:(x.rules.map az).length=x.rules.length:=by simp
 have HX:=Lib.hid hx
 have HF5:=Lib.hid f5
 simp only[pgC]
 clear f4 f5
 have hend:∀S:St,True:=fun _=>trivial
 refine av Tryz.func10 rfl Tryz.ntmps10 rfl fun Q hQ hQe=>?_
 by_cases hbig:40<x.rules.length∨12<x.decls.length
 ·rcases hbig with h1|h1
  ·have hT:((40:Int)<(x.rules.length:Int))=True:=eq_true (by omega)
   (repeat'(first|refine Ctl ?_|((with_reducible refine Kof.use hK ?_);clear hK hE K E)|((with_reducible refine aj (fun h=>?_) (fun h=>?_))<;>(try(exfalso;assumption)))|((first|(with_reducible refine ae fun K E hK hE=>?_)|((with_reducible refine ao (fun b hb=>?_))))<;>(try simp(disch:=omega) only[go_sem,seval,hdl,hcl,hrl,hT, *]))))
   all_goals(refine ap ly hQ ?_)
   all_goals exact⟨_,_,Wk.refl _,Fg.of_set _ hb,false,rfl,rfl,fun h=>by cases h⟩
  ·by_cases h0:40<x.rules.length
   ·have hT:((40:Int)<(x.rules.length:Int))=True:=eq_true (by omega)
    (repeat'(first|refine Ctl ?_|((with_reducible refine Kof.use hK ?_);clear hK hE K E)|((with_reducible refine aj (fun h=>?_) (fun h=>?_))<;>(try(exfalso;assumption)))|((first|(with_reducible refine ae fun K E hK hE=>?_)|((with_reducible refine ao (fun b hb=>?_))))<;>(try simp(disch:=omega) only[go_sem,seval,hdl,hcl,hrl,hT, *]))))
    all_goals(refine ap ly hQ ?_)
    all_goals exact⟨_,_,Wk.refl _,Fg.of_set _ hb,false,rfl,rfl,fun h=>by cases h⟩
   ·have hT:((40:Int)<(x.rules.length:Int))=False:=eq_false (by omega)
    have hT2:((12:Int)<(x.decls.length:Int))=True:=eq_true (by omega)
    (repeat'(first|refine Ctl ?_|((with_reducible refine Kof.use hK ?_);clear hK hE K E)|((with_reducible refine aj (fun h=>?_) (fun h=>?_))<;>(try(exfalso;assumption)))|((first|(with_reducible refine ae fun K E hK hE=>?_)|((with_reducible refine ao (fun b hb=>?_))))<;>(try simp(disch:=omega) only[go_sem,seval,hdl,hcl,hrl,hT,hT2, *]))))
    all_goals(refine ap ly hQ ?_)
    all_goals exact⟨_,_,Wk.refl _,Fg.of_set _ hb,false,rfl,rfl,fun h=>by cases h⟩
 have hT:((40:Int)<(x.rules.length:Int))=False:=eq_false (by omega)
 have hT2:((12:Int)<(x.decls.length:Int))=False:=eq_false (by omega)
 (repeat'(first|refine Ctl ?_|((with_reducible refine Kof.use hK ?_);clear hK hE K E)|((with_reducible refine aj (fun h=>?_) (fun h=>?_))<;>(try(exfalso;assumption)))|((first|(with_reducible refine ae fun K E hK hE=>?_)|((with_reducible refine ao (fun b hb=>?_))))<;>(try simp(disch:=omega) only[go_sem,seval,hdl,hcl,hrl,hT,hT2, *]))))
 obtain⟨b1,hb1⟩:∃z,z=b:=⟨_,rfl⟩
 subst hb1
 have q1:(t.set b1 (.obj 26 [.lst (x.doms.map dmC) .no,.lst (x.decls.map aB) .no,.lst (x.rules.map az) .no])) b1=.obj 26 [.lst (x.doms.map dmC) .no,.lst (x.decls.map aB) .no,.lst (x.rules.map az) .no]:=St.set_same _ _ _
 have HFg:Hid (Fg (t.set b1 (.obj 26 [.lst (x.doms.map dmC) .no,.lst (x.decls.map aB) .no,.lst (x.rules.map az) .no])) t):=Lib.hid (Fg.of_set _ hb)
 generalize t.set b1 (.obj 26 [.lst (x.doms.map dmC) .no,.lst (x.decls.map aB) .no,.lst (x.rules.map az) .no])=S at *
 clear hb
 refine bi (fun m env s'=>∃(i:Nat),i≤x.doms.length∧m+i=x.doms.length∧S=s'∧Hid (∀d,d∈x.doms.take i→d.size≤8)∧env 1=.ptr b1 0∧env 3=.int .i64 i) x.doms.length ?_ ?_
 ·exact⟨0,by omega,by omega,rfl,Lib.hid (fun d hd=>by simp at hd),ab,ab⟩
 rintro m env s' ⟨i,hi,hm,he0,HD,e1,e3⟩
 subst he0
 by_cases hlt:i<x.doms.length
 ·obtain⟨d,hd⟩:=aO hlt
  have hsd:=fR hd
  have HD2:Hid (d.size≤8→∀d,d∈x.doms.take (i+1)→d.size≤8):=Lib.hid fun h d' hd'=>by
   rw[b9 hd]at hd'
   rcases List.mem_append.1 hd' with h1|h1
   ·exact HD.out d' h1
   ·rw[List.mem_singleton]at h1;subst h1;exact h
  obtain⟨dn,dz⟩:=d
  simp only[dmC]at hsd
  simp only at HD2
  clear hd
  by_cases h8:8<dz
  ·(repeat'(first|refine Ctl ?_|((with_reducible refine Kof.use hK ?_);clear hK hE K E)|((with_reducible refine aj (fun h=>?_) (fun h=>?_))<;>(try(exfalso;assumption)))|(((with_reducible refine ae fun K E hK hE=>?_))<;>(try simp(disch:=omega) only[go_sem,seval,hdl,hcl,hrl,hsd, *]))))
   all_goals(refine ap ly hQ ?_)
   all_goals exact⟨_,_,Wk.refl _,HFg.out,false,rfl,rfl,fun h=>by cases h⟩
  ·have HD3:=Lib.hid (HD2.out (by omega))
   (repeat'(first|refine Ctl ?_|((with_reducible refine Kof.use hK ?_);clear hK hE K E)|((with_reducible refine aj (fun h=>?_) (fun h=>?_))<;>(try(exfalso;assumption)))|(((with_reducible refine ae fun K E hK hE=>?_))<;>(try simp(disch:=omega) only[go_sem,seval,hdl,hcl,hrl,hsd, *]))))
   all_goals exact⟨m - 1,by omega,i+1,by omega,by omega,rfl,HD3,ab,ab⟩
 obtain rfl:i=x.doms.length:=by omega
 have hdd:=HD.out
 rw[List.take_length]at hdd
 have HDD:=Lib.hid hdd
 clear hdd HD
 (repeat'(first|refine Ctl ?_|((with_reducible refine Kof.use hK ?_);clear hK hE K E)|((with_reducible refine aj (fun h=>?_) (fun h=>?_))<;>(try(exfalso;assumption)))|(((with_reducible refine ae fun K E hK hE=>?_))<;>(try simp(disch:=omega) only[go_sem,seval,hdl,hcl,hrl, *]))))
 refine bi (fun m env s'=>∃(i:Nat),i≤x.rules.length∧m+i=x.rules.length∧S=s'∧env 1=.ptr b1 0∧env 4=.int .i64 i) x.rules.length ?_ ?_
 ·exact⟨0,by omega,by omega,rfl,ab,ab⟩
 clear e1 e3 env
 rintro m env s' ⟨i,hi,hm,he0,e1,e4⟩
 subst he0
 by_cases hlt:i<x.rules.length
 ·obtain⟨r,hr⟩:=aO hlt
  have hsr:=jX hr
  have hrb:=HF5.out r (List.mem_of_getElem? hr)
  have HAT:=Lib.hid (HX.out.2.2.2.2.2 r (List.mem_of_getElem? hr)).2.2
  obtain⟨rh,rb⟩:=r
  have hbl:(rb.map aF).length=rb.length:=by simp
  simp only[az]at hsr
  simp only at hrb HAT
  clear hr
  (repeat'(first|refine Ctl ?_|((with_reducible refine Kof.use hK ?_);clear hK hE K E)|((with_reducible refine aj (fun h=>?_) (fun h=>?_))<;>(try(exfalso;assumption)))|(((with_reducible refine ae fun K E hK hE=>?_))<;>(try simp(disch:=omega) only[go_sem,seval,hdl,hcl,hrl,hsr,hbl, *]))))
  refine bi (fun m2 env s2=>∃(k n:Nat),k≤rb.length∧m2+k=rb.length∧n≤k * 140737488355328∧S=s2∧env 1=.ptr b1 0∧env 4=.int .i64 i∧env 5=.int .i64 n∧env 6=.int .i64 k) rb.length ?_ ?_
  ·exact⟨0,0,by omega,by omega,by omega,rfl,ab,ab,ab,ab⟩
  clear e1 e4 env
  rintro m2 env s2 ⟨k,n,hk,hm2,hn,he0,e1,e4,e5,e6⟩
  subst he0
  by_cases hltk:k<rb.length
  ·obtain⟨a,ha⟩:=aO hltk
   have hsa:=c5 ha
   have hal:=(HAT.out a (List.mem_of_getElem? ha)).2.1
   obtain⟨an,ar,ats⟩:=a
   have htl:(ats.map aA).length=ats.length:=by simp
   simp only[aF]at hsa
   simp only at hal
   clear ha
   (repeat'(first|refine Ctl ?_|((with_reducible refine Kof.use hK ?_);clear hK hE K E)|((with_reducible refine aj (fun h=>?_) (fun h=>?_))<;>(try(exfalso;assumption)))|(((with_reducible refine ae fun K E hK hE=>?_))<;>(try simp(disch:=omega) only[go_sem,seval,hdl,hcl,hrl,hsr,hbl,hsa,htl, *]))))
   exact⟨m2 - 1,by omega,k+1,n+ats.length,by omega,by omega,by omega,rfl,ab,ab,ab,ab⟩
  ·obtain rfl:k=rb.length:=by omega
   by_cases hb4:4<rb.length
   ·have hT4:((4:Int)<(rb.length:Int))=True:=eq_true (by omega)
    (repeat'(first|refine Ctl ?_|((with_reducible refine Kof.use hK ?_);clear hK hE K E)|((with_reducible refine aj (fun h=>?_) (fun h=>?_))<;>(try(exfalso;assumption)))|(((with_reducible refine ae fun K E hK hE=>?_))<;>(try simp(disch:=omega) only[go_sem,seval,hdl,hcl,hrl,hsr,hbl,hT4, *]))))
    all_goals(refine ap ly hQ ?_)
    all_goals exact⟨_,_,Wk.refl _,HFg.out,false,rfl,rfl,fun h=>by cases h⟩
   ·have hT4:((4:Int)<(rb.length:Int))=False:=eq_false (by omega)
    by_cases hn8:8<n
    ·have hT8:((8:Int)<(n:Int))=True:=eq_true (by omega)
     (repeat'(first|refine Ctl ?_|((with_reducible refine Kof.use hK ?_);clear hK hE K E)|((with_reducible refine aj (fun h=>?_) (fun h=>?_))<;>(try(exfalso;assumption)))|(((with_reducible refine ae fun K E hK hE=>?_))<;>(try simp(disch:=omega) only[go_sem,seval,hdl,hcl,hrl,hsr,hbl,hT4,hT8, *]))))
     all_goals(refine ap ly hQ ?_)
     all_goals exact⟨_,_,Wk.refl _,HFg.out,false,rfl,rfl,fun h=>by cases h⟩
    ·have hT8:((8:Int)<(n:Int))=False:=eq_false (by omega)
     (repeat'(first|refine Ctl ?_|((with_reducible refine Kof.use hK ?_);clear hK hE K E)|((with_reducible refine aj (fun h=>?_) (fun h=>?_))<;>(try(exfalso;assumption)))|(((with_reducible refine ae fun K E hK hE=>?_))<;>(try simp(disch:=omega) only[go_sem,seval,hdl,hcl,hrl,hsr,hbl,hT4,hT8, *]))))
     all_goals exact⟨m - 1,by omega,i+1,by omega,by omega,rfl,ab,ab⟩
 obtain rfl:i=x.rules.length:=by omega
 (repeat'(first|refine Ctl ?_|((with_reducible refine Kof.use hK ?_);clear hK hE K E)|((with_reducible refine aj (fun h=>?_) (fun h=>?_))<;>(try(exfalso;assumption)))|(((with_reducible refine ae fun K E hK hE=>?_))<;>(try simp(disch:=omega) only[go_sem,seval,hdl,hcl,hrl, *]))))
 all_goals(refine ap ly hQ ?_)
 all_goals exact⟨_,_,Wk.refl _,HFg.out,true,rfl,rfl,fun _=>HDD.out⟩
def qx (g:List Tbl):Prop:=g.length≤140737488355328∧∀y,y∈g→y.nm.length≤140737488355328∧y.rs.length≤140737488355328∧∀r,r∈y.rs→r.length≤140737488355328
def uL (g:List Tbl):Prop:=g.length≤20∧∀y,y∈g→y.rs.length≤60∧∀r,r∈y.rs→r.length≤20
set_option maxHeartbeats 8000000 in
theorem sW (g:List Tbl)(oL:Own)(hg:qx g)(t:St):SCalls Tryz.prog 11 [.lst (g.map aZ) oL] t fun w u=>∃r:Bool,w=.ret (.bool r)∧u=t∧(r=true→uL g):=by
 have hgl1:(g.map aZ).length=g.length:=by simp
 have hgl:=hg.1
 have HG:=Lib.hid hg.2
 clear hg
 refine av Tryz.func11 rfl Tryz.ntmps11 rfl fun Q hQ hQe=>?_
 (repeat'(first|refine Ctl ?_|((with_reducible refine Kof.use hK ?_);clear hK hE K E)|(((with_reducible refine ae fun K E hK hE=>?_))<;>(try simp(disch:=omega) only[go_sem,seval, *]))))
 refine bi (fun m env s'=>∃(i:Nat),i≤g.length∧i≤20∧m+i=20∧t=s'∧Hid (∀y,y∈g.take i→y.rs.length≤60∧∀r,r∈y.rs→r.length≤20)∧env 0=.lst (g.map aZ) oL∧env 3=.int .i64 i) 20 ?_ ?_
 ·exact⟨0,by omega,by omega,by omega,rfl,Lib.hid (fun y hy=>by simp at hy),ab,ab⟩
 rintro m env s' ⟨i,hi,hi2,hm,he0,HD,e0,e3⟩
 subst he0
 by_cases hlt:i<g.length
 ·have hltT:((i:Int)<(g.length:Int))=True:=eq_true (by omega)
  by_cases h20:i<20
  ·have h20T:((i:Int)<20)=True:=eq_true (by omega)
   obtain⟨y,hy⟩:=aO hlt
   have hsy:=em hy
   obtain⟨g1,g2,g3⟩:=HG.out y (List.mem_of_getElem? hy)
   have hrl:(aD y.rs).length=y.rs.length:=cL
   have HY:=Lib.hid hy
   have HG3:=Lib.hid g3
   obtain⟨yn,yr⟩:=y
   simp only[aZ]at hsy
   simp only at g1 g2 hrl HG3
   clear hy g3
   by_cases h100:100<yn.length
   ·have hT:((100:Int)<(yn.length:Int))=True:=eq_true (by omega)
    (repeat'(first|refine Ctl ?_|((with_reducible refine Kof.use hK ?_);clear hK hE K E)|((with_reducible refine aj (fun h=>?_) (fun h=>?_))<;>(try(exfalso;assumption)))|(((with_reducible refine ae fun K E hK hE=>?_))<;>(try simp(disch:=omega) only[go_sem,seval,hgl1,hsy,hrl,hltT,h20T,hT, *]))))
    all_goals(refine ap oZ hQ ?_)
    all_goals exact⟨_,_,Wk.refl _,Fg.refl _,false,rfl,rfl,fun h=>by cases h⟩
   ·have hT:((100:Int)<(yn.length:Int))=False:=eq_false (by omega)
    by_cases h60:60<yr.length
    ·have hT6:((60:Int)<(yr.length:Int))=True:=eq_true (by omega)
     (repeat'(first|refine Ctl ?_|((with_reducible refine Kof.use hK ?_);clear hK hE K E)|((with_reducible refine aj (fun h=>?_) (fun h=>?_))<;>(try(exfalso;assumption)))|(((with_reducible refine ae fun K E hK hE=>?_))<;>(try simp(disch:=omega) only[go_sem,seval,hgl1,hsy,hrl,hltT,h20T,hT,hT6, *]))))
     all_goals(refine ap oZ hQ ?_)
     all_goals exact⟨_,_,Wk.refl _,Fg.refl _,false,rfl,rfl,fun h=>by cases h⟩
    ·have hT6:((60:Int)<(yr.length:Int))=False:=eq_false (by omega)
     (repeat'(first|refine Ctl ?_|((with_reducible refine Kof.use hK ?_);clear hK hE K E)|((with_reducible refine aj (fun h=>?_) (fun h=>?_))<;>(try(exfalso;assumption)))|(((with_reducible refine ae fun K E hK hE=>?_))<;>(try simp(disch:=omega) only[go_sem,seval,hgl1,hsy,hrl,hltT,h20T,hT,hT6, *]))))
     refine bi (fun m2 env s2=>∃(k:Nat),k≤yr.length∧m2+k=yr.length∧t=s2∧Hid (∀r,r∈yr.take k→r.length≤20)∧env 0=.lst (g.map aZ) oL∧env 3=.int .i64 i∧env 4=.int .i64 k) yr.length ?_ ?_
     ·exact⟨0,by omega,by omega,rfl,Lib.hid (fun r hr=>by simp at hr),ab,ab,ab⟩
     clear e0 e3 env
     rintro m2 env s2 ⟨k,hk,hm2,he0,HR,e0,e3,e4⟩
     subst he0
     by_cases hltk:k<yr.length
     ·obtain⟨r,hr⟩:=aO hltk
      have hsr:=dP hr
      have hrl2:=HG3.out r (List.mem_of_getElem? hr)
      have hrl3:(ay r).length=r.length:=bH
      have HR2:Hid (r.length≤20→∀r,r∈yr.take (k+1)→r.length≤20):=Lib.hid fun h r' hr'=>by
       rw[b9 hr]at hr'
       rcases List.mem_append.1 hr' with h1|h1
       ·exact HR.out r' h1
       ·rw[List.mem_singleton]at h1;subst h1;exact h
      clear hr
      by_cases hb:20<r.length
      ·have hTr:((20:Int)<(r.length:Int))=True:=eq_true (by omega)
       (repeat'(first|refine Ctl ?_|((with_reducible refine Kof.use hK ?_);clear hK hE K E)|((with_reducible refine aj (fun h=>?_) (fun h=>?_))<;>(try(exfalso;assumption)))|(((with_reducible refine ae fun K E hK hE=>?_))<;>(try simp(disch:=omega) only[go_sem,seval,hgl1,hsy,hrl,hsr,hrl3,hTr, *]))))
       all_goals(refine ap oZ hQ ?_)
       all_goals exact⟨_,_,Wk.refl _,Fg.refl _,false,rfl,rfl,fun h=>by cases h⟩
      ·have hTr:((20:Int)<(r.length:Int))=False:=eq_false (by omega)
       have HR3:=Lib.hid (HR2.out (by omega))
       (repeat'(first|refine Ctl ?_|((with_reducible refine Kof.use hK ?_);clear hK hE K E)|((with_reducible refine aj (fun h=>?_) (fun h=>?_))<;>(try(exfalso;assumption)))|(((with_reducible refine ae fun K E hK hE=>?_))<;>(try simp(disch:=omega) only[go_sem,seval,hgl1,hsy,hrl,hsr,hrl3,hTr, *]))))
       all_goals exact⟨m2 - 1,by omega,k+1,by omega,by omega,rfl,HR3,ab,ab,ab⟩
     ·obtain rfl:k=yr.length:=by omega
      have HD2:Hid (∀y,y∈g.take (i+1)→y.rs.length≤60∧∀r,r∈y.rs→r.length≤20):=Lib.hid fun y hy=>by
       rw[b9 HY.out]at hy
       rcases List.mem_append.1 hy with h1|h1
       ·exact HD.out y h1
       ·rw[List.mem_singleton]at h1
        subst h1
        exact⟨by show yr.length≤60;omega,fun r hr=>HR.out r (by rw[List.take_length];exact hr)⟩
      (repeat'(first|refine Ctl ?_|((with_reducible refine Kof.use hK ?_);clear hK hE K E)|((with_reducible refine aj (fun h=>?_) (fun h=>?_))<;>(try(exfalso;assumption)))|(((with_reducible refine ae fun K E hK hE=>?_))<;>(try simp(disch:=omega) only[go_sem,seval,hgl1,hsy,hrl, *]))))
      all_goals exact⟨m - 1,by omega,i+1,by omega,by omega,by omega,rfl,HD2,ab,ab⟩
  ·have h20T:((i:Int)<20)=False:=eq_false (by omega)
   have hT:((g.length:Int)≤20)=False:=eq_false (by omega)
   (repeat'(first|refine Ctl ?_|((with_reducible refine Kof.use hK ?_);clear hK hE K E)|((with_reducible refine aj (fun h=>?_) (fun h=>?_))<;>(try(exfalso;assumption)))|(((with_reducible refine ae fun K E hK hE=>?_))<;>(try simp(disch:=omega) only[go_sem,seval,hgl1,hltT,h20T,hT, *]))))
   all_goals(refine ap oZ hQ ?_)
   all_goals exact⟨_,_,Wk.refl _,Fg.refl _,false,rfl,rfl,fun h=>by cases h⟩
 ·have hltT:((i:Int)<(g.length:Int))=False:=eq_false (by omega)
  have hT:((g.length:Int)≤20)=True:=eq_true (by omega)
  have HS:Hid (uL g):=Lib.hid ⟨by omega,fun y hy=>HD.out y (by rw[List.take_of_length_le (by omega)];exact hy)⟩
  (repeat'(first|refine Ctl ?_|((with_reducible refine Kof.use hK ?_);clear hK hE K E)|((with_reducible refine aj (fun h=>?_) (fun h=>?_))<;>(try(exfalso;assumption)))|(((with_reducible refine ae fun K E hK hE=>?_))<;>(try simp(disch:=omega) only[go_sem,seval,hgl1,hltT,hT, *]))))
  all_goals(refine ap oZ hQ ?_)
  all_goals exact⟨_,_,Wk.refl _,Fg.refl _,true,rfl,rfl,fun _=>HS.out⟩
end Go.Proofs.YteldpmgepfaiiaaGreatDoor
namespace Go.Proofs.YteldpmgepfaiiaaGreatDoor
open Go.RowKit
attribute [local go_sem] aN aX cG
def Ih (x:Pgm):Prop:=∀d,d∈x.doms→d.size≤8
end Go.Proofs.YteldpmgepfaiiaaGreatDoor
namespace Go.Proofs.YteldpmgepfaiiaaGreatDoor
open Go.RowKit
attribute [local go_sem] aN aX cG
theorem Al (x:Pgm)(hx:PgmOk x)(hno:¬ (Im x∧Ih x)):(∀s,SRet Tryz.prog 9 [.agg (pgC x)] s (.bool false) s)∨(∀s,SCalls Tryz.prog 9 [.agg (pgC x)] s fun w u=>∃r:Bool,w=.ret (.bool r)∧u=s∧True)∧(∀s,SRet Tryz.prog 10 [.agg (pgC x)] s (.bool false) s):=by
 by_cases hF:Im x
 ·right
  exact⟨fun s=>SCalls.mono (wm x hx s) fun w u ⟨r,h1,h2,_⟩=>⟨r,h1,h2,trivial⟩,fun s=>SCalls.mono (nR x hx hF s) fun w u ⟨r,h1,h2,h3⟩=>by
   cases r with
   |false=>exact⟨h1,h2⟩
   |true=>exact absurd ⟨hF,h3 rfl⟩ hno⟩
 ·left
  exact fun s=>SCalls.mono (wm x hx s) fun w u ⟨r,h1,h2,h3⟩=>by
   cases r with
   |false=>exact⟨h1,h2⟩
   |true=>exact absurd (h3 rfl) hF
theorem Ay (x:Pgm)(hx:PgmOk x)(hF:Im x):(∀s,SCalls Tryz.prog 9 [.agg (pgC x)] s fun w u=>∃r:Bool,w=.ret (.bool r)∧u=s∧True)∧(∀s,SCalls Tryz.prog 10 [.agg (pgC x)] s fun w u=>∃r:Bool,w=.ret (.bool r)∧u=s∧True):=
 ⟨fun s=>SCalls.mono (wm x hx s) fun w u ⟨r,h1,h2,_⟩=>⟨r,h1,h2,trivial⟩,fun s=>SCalls.mono (nR x hx hF s) fun w u ⟨r,h1,h2,_⟩=>⟨r,h1,h2,trivial⟩⟩
end Go.Proofs.YteldpmgepfaiiaaGreatDoor
namespace Go.Proofs.YteldpmgepfaiiaaGreatDoor
open Go.RowKit
attribute [local go_sem] aN aX cG
set_option maxHeartbeats 8000000 in
theorem mz (x:Pgm)(k:Int)(g:List Tbl)(oL:Own)(hx:PgmOk x)(hg:qx g)(t:St):SRet Tryz.prog 8 [.agg (pgC x),.int .i64 k,.lst (g.map aZ) oL] t (.bool true) t:=by
 by_cases hFL:Im x∧Ih x
 ·obtain⟨hF,hL⟩:=hFL
  obtain⟨w1,w2⟩:=Ay x hx hF
  by_cases hS:uL g
  ·have hds:∀d,d∈x.doms→d.size≤256:=fun d hd=>by have:=hL d hd;omega
   have w3:∀s,SCalls Tryz.prog 11 [.lst (g.map aZ) oL] s fun w u=>∃r:Bool,w=.ret (.bool r)∧u=s∧True:=fun s=>SCalls.mono (sW g oL hg s) fun w u ⟨r,h1,h2,_⟩=>⟨r,h1,h2,trivial⟩
   have w4:=fun s=>wE x k g oL hx hds (by have:=hS.1;omega) (fun t ht=>⟨by have:=(hS.2 t ht).1;omega,fun r hr=>by have:=(hS.2 t ht).2 r hr;omega⟩) s
   have w5:=fun s=>Ak x k g oL hx hds (by have:=hS.1;omega) (fun t ht=>⟨by have:=(hS.2 t ht).1;omega,fun r hr=>by have:=(hS.2 t ht).2 r hr;omega⟩) (fun t ht=>by have:=(hS.2 t ht).1;omega) s
   simp only[pgC]at w1 w2 w4 w5 ⊢
   clear hF hL hS hg hx hds
   refine av Tryz.func8 rfl Tryz.ntmps8 rfl fun Q hQ hQe=>?_
   (repeat'(first|refine Ctl ?_|((with_reducible refine Kof.use hK ?_);clear hK hE K E)|((with_reducible refine aj (fun h=>?_) (fun h=>?_))<;>(try(exfalso;assumption)))|((first|(with_reducible first|refine ae fun K E hK hE=>?_|refine ak sw (sV _) ?_)|((with_reducible refine aT CW (w1 _) (fun a h=>?_)))|((with_reducible refine aT AT (w2 _) (fun a h=>?_)))|((with_reducible refine aT D8 (w3 _) (fun a h=>?_)))|((with_reducible refine aT Dj (w4 _) (fun a h=>?_)))|((with_reducible refine aT Df (w5 _) (fun a h=>?_)))|((with_reducible refine ao (fun b hb=>?_)))|((with_reducible refine dC (fun h=>?_) (fun h=>?_))))<;>(try simp(disch:=omega) only[go_sem,seval, *]))))
   rotate_right
   ·rename_i q d1 d2
    have hd:=d1 d2
    obtain⟨e1,e2⟩:=sU hd h
    have ws:=fun s=>nP q.1 q.1 .no .no (fx hd) (fx hd) s
    simp only[decide_true]at ws
    rw[e1]
    have he2:((a.2:Int)=q.2.1)=True:=eq_true e2
    clear d1 d2 hd h e1 e2
    (repeat'(first|refine Ctl ?_|((with_reducible refine Kof.use hK ?_);clear hK hE K E)|(((with_reducible first|refine ak D5 (ws _) ?_|refine ak sw (sV _) ?_))<;>(try simp(disch:=omega) only[go_sem,seval,he2, *]))))
    all_goals(refine ap se hQ ?_)
    all_goals exact⟨_,t,Wk.refl _,Fg.of_set _ hb,rfl,rfl⟩
   all_goals(refine ap se hQ ?_)
   all_goals exact⟨_,t,Wk.refl _,Fg.of_set _ hb,rfl,rfl⟩
  ·have w3:∀s,SRet Tryz.prog 11 [.lst (g.map aZ) oL] s (.bool false) s:=fun s=>SCalls.mono (sW g oL hg s) fun w u ⟨r,h1,h2,h3⟩=>by
    cases r with
    |false=>exact⟨h1,h2⟩
    |true=>exact absurd (h3 rfl) hS
   simp only[pgC]at w1 w2 ⊢
   clear hF hL hS hx hg
   refine av Tryz.func8 rfl Tryz.ntmps8 rfl fun Q hQ hQe=>?_
   (repeat'(first|refine Ctl ?_|((with_reducible refine Kof.use hK ?_);clear hK hE K E)|((with_reducible refine aj (fun h=>?_) (fun h=>?_))<;>(try(exfalso;assumption)))|((first|(with_reducible first|refine ae fun K E hK hE=>?_|refine ak D8 (w3 _) ?_|refine ak sw (sV _) ?_)|((with_reducible refine aT CW (w1 _) (fun a h=>?_)))|((with_reducible refine aT AT (w2 _) (fun a h=>?_)))|((with_reducible refine ao (fun b hb=>?_)))|((with_reducible refine dC (fun h=>?_) (fun h=>?_))))<;>(try simp(disch:=omega) only[go_sem,seval, *]))))
   all_goals(refine ap se hQ ?_)
   all_goals exact⟨_,t,Wk.refl _,Fg.of_set _ hb,rfl,rfl⟩
 ·rcases Al x hx hFL with w1|⟨w1,w2⟩
  ·clear hFL hx hg
   simp only[pgC]at w1 ⊢
   refine av Tryz.func8 rfl Tryz.ntmps8 rfl fun Q hQ hQe=>?_
   (repeat'(first|refine Ctl ?_|((with_reducible refine Kof.use hK ?_);clear hK hE K E)|((with_reducible refine aj (fun h=>?_) (fun h=>?_))<;>(try(exfalso;assumption)))|((first|(with_reducible first|refine ae fun K E hK hE=>?_|refine ak CW (w1 _) ?_|refine ak sw (sV _) ?_)|((with_reducible refine ao (fun b hb=>?_))))<;>(try simp(disch:=omega) only[go_sem,seval, *]))))
   all_goals(refine ap se hQ ?_)
   all_goals exact⟨_,t,Wk.refl _,Fg.of_set _ hb,rfl,rfl⟩
  ·clear hFL hx hg
   simp only[pgC]at w1 w2 ⊢
   refine av Tryz.func8 rfl Tryz.ntmps8 rfl fun Q hQ hQe=>?_
   (repeat'(first|refine Ctl ?_|((with_reducible refine Kof.use hK ?_);clear hK hE K E)|((with_reducible refine aj (fun h=>?_) (fun h=>?_))<;>(try(exfalso;assumption)))|((first|(with_reducible first|refine ae fun K E hK hE=>?_|refine ak AT (w2 _) ?_|refine ak sw (sV _) ?_)|((with_reducible refine aT CW (w1 _) (fun a h=>?_)))|((with_reducible refine ao (fun b hb=>?_)))|((with_reducible refine dC (fun h=>?_) (fun h=>?_))))<;>(try simp(disch:=omega) only[go_sem,seval, *]))))
   all_goals(refine ap se hQ ?_)
   all_goals exact⟨_,t,Wk.refl _,Fg.of_set _ hb,rfl,rfl⟩
end Go.Proofs.YteldpmgepfaiiaaGreatDoor
namespace Go.Proofs.YteldpmgepfaiiaaGreatDoor
open Go.RowKit
section
variable {H : Type} {enc : TypeId × Value → H} {w : World}
theorem BN {fuel:Nat}{cs:List Value}{x:DataW H×List MemPlace}(h:DataW.trod enc Tryz.prog w 0 (fun _=>true) true fuel 48 cs=some x)(hw:Wt Tryz.prog 48 x.1) :
  ∃r:List Int,CellsR (GhW w) cs [bV r]∧r.length≤140737488355328:=by
 obtain⟨xss,h1,h2,h3⟩:=eB (Q:=fun xs=>∃n:Int,xs=[.int .i64 n]∧True) (sz:=1) Tryz.underlying48 (by kernel_rfl) (by omega) (by decide +kernel) h hw (fun n cs' y _ hy _=>by
  obtain⟨k,hk,_⟩:=tO (GhW w) Tryz.underlying3 hy
  exact⟨[.int .i64 k],hk,rfl,k,rfl,trivial⟩)
 obtain⟨l,rfl,_⟩:=eT (C:=fun n:Int=>[VV.int .i64 n]) xss h2
 exact⟨l,h1,by rw[List.length_map]at h3;exact cM h3⟩
theorem zx {fuel:Nat}{cs:List Value}{x:DataW H×List MemPlace}(h:DataW.trod enc Tryz.prog w 0 (fun _=>true) true fuel 44 cs=some x)(hw:Wt Tryz.prog 44 x.1) :
  ∃l:List (List Int),CellsR (GhW w) cs [.lst (aD l) .no]∧l.length≤140737488355328∧∀r,r∈l→r.length≤140737488355328:=by
 obtain⟨xss,h1,h2,h3⟩:=eB (Q:=fun xs=>∃r:List Int,xs=[bV r]∧r.length≤140737488355328) (sz:=1) Tryz.underlying44 (by kernel_rfl) (by omega) (by decide +kernel) h hw (fun n cs' y _ hy hwy=>by
  obtain⟨r,hr1,hr2⟩:=BN hy hwy
  exact⟨[bV r],hr1,rfl,r,rfl,hr2⟩)
 obtain⟨l,rfl,hl⟩:=eT (C:=fun r:List Int=>[bV r]) xss h2
 exact⟨l,h1,by rw[List.length_map]at h3;exact cM h3,hl⟩
theorem Fw {fuel:Nat}{cs:List Value}{x:DataW H×List MemPlace}(h:DataW.trod enc Tryz.prog w 0 (fun _=>true) true fuel 46 cs=some x)(hw:Wt Tryz.prog 46 x.1) :
  ∃t:Tbl,CellsR (GhW w) cs (aZ t)∧t.nm.length≤140737488355328∧t.rs.length≤140737488355328∧∀r,r∈t.rs→r.length≤140737488355328:=by
 obtain⟨n,hn,hl,hf⟩:=ft Tryz.underlying46 (by kernel_rfl) (dF (by decide +kernel)) h hw
 obtain⟨v0,y0,e0,t0,w0⟩:=hf 0 _ rfl
 obtain⟨v1,y1,e1,t1,w1⟩:=hf 1 _ rfl
 obtain⟨d,r0,l0⟩:=kR (GhW w) Tryz.underlying9 t0 w0
 obtain⟨l,r1,l1,l2⟩:=zx t1 w1
 refine⟨⟨d,l⟩,CellsR.of (by rw[hl];rfl) fun j y hy=>?_,cM l0,l1,l2⟩
 simp only[aZ]at hy
 match j with
 |0=>simp at hy;subst hy;exact⟨v0,e0,r0.get1⟩
 |1=>simp at hy;subst hy;exact⟨v1,e1,r1.get1⟩
 |j+2=>simp at hy
theorem BM {fuel:Nat}{cs:List Value}{x:DataW H×List MemPlace}(h:DataW.trod enc Tryz.prog w 0 (fun _=>true) true fuel 27 cs=some x)(hw:Wt Tryz.prog 27 x.1) :
  ∃l:List Tbl,CellsR (GhW w) cs [.lst (l.map aZ) .no]∧qx l:=by
 obtain⟨xss,h1,h2,h3⟩:=eB (Q:=fun xs=>∃t:Tbl,xs=aZ t∧t.nm.length≤140737488355328∧t.rs.length≤140737488355328∧∀r,r∈t.rs→r.length≤140737488355328) (sz:=2) Tryz.underlying27 (by kernel_rfl) (by omega) (by decide +kernel) h hw (fun n cs' y _ hy hwy=>by
  obtain⟨t,ht1,ht2⟩:=Fw hy hwy
  exact⟨aZ t,ht1,rfl,t,rfl,ht2⟩)
 obtain⟨l,rfl,hl⟩:=eT xss h2
 exact⟨l,h1,by rw[List.length_map]at h3;exact cM h3,hl⟩
end
end Go.Proofs.YteldpmgepfaiiaaGreatDoor
