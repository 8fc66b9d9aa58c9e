/- Walks of functions, and plain facts. Conditions: those in the statements. -/
import Derived.Test.YteldpmgepfaiiaaGreatDoorQsUkj
import Derived.Test.YteldpmgepfaiiaaGreatDoorQsBldj
import Derived.Test.YteldpmgepfaiiaaGreatDoorQsYaj
import Derived.Lib.ItoaLen
set_option linter.unusedSimpArgs false
set_option linter.unusedVariables false
set_option maxRecDepth 100000
namespace Go.Proofs.YteldpmgepfaiiaaGreatDoor
open Go.RowKit
def di (t:List UInt8):Bool:=dP ⟨1,t,0⟩
theorem gE (t:List UInt8)(hl:t.length<=9223372036854775000)(s:St):SRet Tryz.prog 140 [.str t] s (.bool (di t)) s:=by
 refine aw Tryz.func140 rfl Tryz.ntmps140 rfl fun Q hQ hQe=>?_
 have hL:([⟨1,t,0⟩]:List Sgn).length<=4096:=by simp
 have hx:∀x,x∈([⟨1,t,0⟩]:List Sgn)->x.text.length<=9223372036854775000:=by intro x hx;rw[e_]at hx;subst hx;exact hl
 have hsp:=Ew [⟨1,t,0⟩] .full hL hx s
 simp only[List.map_cons,List.map_nil,gw]at hsp
 cases hb:dP ⟨1,t,0⟩
 ·have hv:fP [⟨1,t,0⟩]=.tup [.str [],.int .i64 1]:=by simp[fP,hb]
  rw[hv]at hsp
  (repeat'(first|refine Ctl ?_|((with_reducible refine j_ hK ?_);clear hK hE K E)|(((with_reducible first|refine ae fun K E hK hE=>?_|refine ak B3 (hsp) ?_))<;>(try simp(disch:=omega) only[go_sem,seval, *]))))
  all_goals(refine ap u7 hQ ?_)
  all_goals(refine⟨_,_,Wk.of_eq ?_,?_,rfl,rfl⟩)
  all_goals first|(exact bC)|(simp[di,hb])
 ·have hv:fP [⟨1,t,0⟩]=.tup [.str (Lib.join [t] [32]),.int .i64 0]:=by simp[fP,hb]
  rw[hv]at hsp
  (repeat'(first|refine Ctl ?_|((with_reducible refine j_ hK ?_);clear hK hE K E)|(((with_reducible first|refine ae fun K E hK hE=>?_|refine ak B3 (hsp) ?_))<;>(try simp(disch:=omega) only[go_sem,seval, *]))))
  all_goals(refine ap u7 hQ ?_)
  all_goals(refine⟨_,_,Wk.of_eq ?_,?_,rfl,rfl⟩)
  all_goals first|(exact bC)|(simp[di,hb])
def fN (t:Trm):Bool:=if t.var=true then di t.nm && decide (t.n=0)else decide (t.nm=[]) && decide (0<=t.n) && decide (t.n<=9999999999)
def dh (a:Atm):Bool:=a.ts.all fN && di a.rel && decide (0<a.ts.length) && decide (a.ts.length<=8)
theorem dl {l:List Trm}{i:Nat}{x:Trm}(h:l[i]?=some x):(l.map aC)[i]?=some (aC x):=by rw[c_,h];rfl
def pf (a:Atm):Prop:=a.rel.length<=140737488355328/\a.ts.length<=140737488355328/\∀t,t∈a.ts->t.nm.length<=140737488355328/\-9223372036854775808<=t.n/\t.n<=9223372036854775807
set_option maxHeartbeats 2000000 in
theorem zY (a:Atm)(o0:Own)(ha:pf a)(s:St):SRet Tryz.prog 141 [.agg [.bool a.not,.str a.rel,.lst (a.ts.map aC) o0]] s (.bool (dh a)) s:=by
  obtain⟨h1,h2,h3⟩:=ha
  refine aw Tryz.func141 rfl Tryz.ntmps141 rfl fun Q hQ hQe=>?_
  (repeat'(first|refine Ctl ?_|((with_reducible refine j_ hK ?_);clear hK hE K E)|((first|(with_reducible refine ae fun K E hK hE=>?_)|((with_reducible refine ao (fun b hb=>?_))))<;>(try simp(disch:=omega) only[go_sem,seval,a_, *]))))
  obtain⟨nt,rel,ts⟩:=a
  simp only at h1 h2 h3 ⊢
  have hb0:s.set b (.obj 40 [.bool nt,.str rel,.lst (ts.map aC) o0]) b=.obj 40 [.bool nt,.str rel,.lst (ts.map aC) o0]:=q_ _ _ _
  have hF0:Fg (s.set b (.obj 40 [.bool nt,.str rel,.lst (ts.map aC) o0])) s:=v_ _ hb
  generalize s.set b (.obj 40 [.bool nt,.str rel,.lst (ts.map aC) o0])=B at *
  have hbf:B b≠.free:=by rw[hb0];simp
  have HF:=u_ hF0
  clear hF0 hb
  refine aI (fun m env s'=>∃i:Nat,i<=ts.length/\m+i=ts.length/\s'=B/\(ts.take i).all fN=true/\env 1=.ptr b 0/\env 6=.lst (ts.map aC) o0/\env 7=.int .i64 ts.length/\env 8=.int .i64 i) ts.length ?_ ?_
  · exact⟨B,Fg.refl _,0,by omega,by omega,rfl,rfl,ab,ab,ab,ab⟩
  · rintro m env s' ⟨i,hi,hm,rfl,hall,e1,e6,e7,e8⟩
    by_cases hlt:i<ts.length
    · obtain⟨c,hc⟩:=aN hlt
      obtain⟨hc1,hc2,hc3⟩:=h3 c (p_ hc)
      have hsx:=dl hc
      have HX:=u_ hc
      have HH:=u_ hall
      clear hc hall
      obtain⟨cv,cn,cz⟩:=c
      simp only at hc1 hc2 hc3
      cases cv
      all_goals
        (repeat'(first|refine Ctl ?_|((with_reducible refine j_ hK ?_);clear hK hE K E)|((with_reducible refine aj (fun h=>?_) (fun h=>?_))<;>(try(exfalso;assumption)))|((first|(with_reducible first|refine ae fun K E hK hE=>?_|refine ak oG (gE _ (by omega) _) ?_)|((with_reducible refine ao (fun b hb=>?_)))|((with_reducible refine dy (fun h=>?_) (fun h=>?_))))<;>(try simp(disch:=omega) only[go_sem,seval,aC, *]))))
      all_goals first
        | (have hres : dh ⟨nt, rel, ts⟩ = false := by unfold dh; rw [bO HX.out (by simp [fN]; grind)]; simp
           (refine ap u6 hQ ?_)
           (refine⟨_,_,Wk.of_eq ?_,?_,rfl,rfl⟩)
           · rw[hres]
           · exact(v_ _ hb).trans HF)
        |exact⟨s',v_ _ hb,m - 1,by omega,i+1,by omega,by omega,rfl,bE HH.out HX.out (by simp[fN];grind),ab,ab,ab,ab⟩
    · have hiL:i=ts.length:=by omega
      rw[hiL,f_]at hall
      have HA:=u_ hall
      clear hall
      (repeat'(first|refine Ctl ?_|((with_reducible refine j_ hK ?_);clear hK hE K E)|((with_reducible refine aj (fun h=>?_) (fun h=>?_))<;>(try(exfalso;omega)))|((first|(with_reducible first|refine ae fun K E hK hE=>?_|refine ak oG (gE _ (by omega) _) ?_)|((with_reducible refine dy (fun h=>?_) (fun h=>?_))))<;>(try simp(disch:=omega) only[go_sem,seval,a_, *]))))
      all_goals(refine ap u6 hQ ?_)
      all_goals(refine⟨_,_,Wk.of_eq ?_,?_,rfl,rfl⟩)
      all_goals first|exact HF|(have hall:=HA.out;simp[dh, *];done)|(have hall:=HA.out;simp[dh, *];grind)
def jU (t:Trm):List UInt8:=if t.var=true then t.nm else Lib.itoa t.n
def gB (a:Atm):List UInt8:=(if a.not=true then [33] else [])++(a.rel++[40]++Lib.join (a.ts.map jU) [44,32]++[41])
def ES (a:Atm):Prop:=a.rel.length<=1000/\a.ts.length<=1000/\∀t,t∈a.ts->(jU t).length<=1000/\-9223372036854775808<=t.n/\t.n<=9223372036854775807
set_option maxHeartbeats 2000000 in
theorem sf (a:Atm)(o0:Own)(ha:ES a)(s:St):SRet Tryz.prog 135 [.agg [.bool a.not,.str a.rel,.lst (a.ts.map aC) o0]] s (.str (gB a)) s:=by
 obtain⟨h1,h2,h3⟩:=ha
 refine aw Tryz.func135 rfl Tryz.ntmps135 rfl fun Q hQ hQe=>?_
 (repeat'(first|refine Ctl ?_|((with_reducible refine j_ hK ?_);clear hK hE K E)|((first|(with_reducible refine ae fun K E hK hE=>?_)|((with_reducible refine ao (fun b hb=>?_))))<;>(try simp(disch:=omega) only[go_sem,seval,a_, *]))))
 obtain⟨nt,rel,ts⟩:=a
 simp only at h1 h2 h3 ⊢
 have hb0:s.set b (.obj 40 [.bool nt,.str rel,.lst (ts.map aC) o0]) b=.obj 40 [.bool nt,.str rel,.lst (ts.map aC) o0]:=q_ _ _ _
 have hF0:Fg (s.set b (.obj 40 [.bool nt,.str rel,.lst (ts.map aC) o0])) s:=v_ _ hb
 generalize s.set b (.obj 40 [.bool nt,.str rel,.lst (ts.map aC) o0])=B at *
 have hbf:B b≠.free:=by rw[hb0];simp
 have HF:=u_ hF0
 clear hF0 hb
 refine aI (fun m env s'=>∃(i:Nat) (o:Own),i<=ts.length/\m+i=ts.length/\s'=B.own o 9 1 i/\OwnOk B o i/\ay o b/\env 1=.ptr b 0/\env 3=.lst (aA ((ts.take i).map jU)) o/\env 9=.lst (ts.map aC) o0/\env 10=.int .i64 ts.length/\env 11=.int .i64 i) ts.length ?_ ?_
 ·exact⟨B,Fg.refl _,0,.full,by omega,by omega,rfl,rfl,trivial,ab,ab,ab,ab,ab⟩
 ·rintro m env s' ⟨i,o,hi,hm,rfl,hO,hob,e1,e3,e9,e10,e11⟩
  by_cases hlt:i<ts.length
  ·obtain⟨c,hc⟩:=aN hlt
   obtain⟨hc1,hc2,hc3⟩:=h3 c (p_ hc)
   have hsx:=dl hc
   have htk:aA ((ts.take (i+1)).map jU)=aA ((ts.take i).map jU)++[[.str (jU c)]]:=by rw[bY hc];simp[aA]
   have hst:(aA ((ts.take i).map jU)).length=i:=by simp[aA];omega
   have HT:=u_ htk
   clear hc htk
   obtain⟨cv,cn,cz⟩:=c
   simp only at hc1 hc2 hc3
   cases cv
   all_goals
    (repeat'(first|refine Ctl ?_|((with_reducible refine j_ hK ?_);clear hK hE K E)|((with_reducible refine aj (fun h=>?_) (fun h=>?_))<;>(try(exfalso;assumption)))|((first|(with_reducible first|refine ae fun K E hK hE=>?_|refine ak Ce (CX _ (‹_›) (‹_›) _) ?_)|((with_reducible refine ao (fun b hb=>?_));(repeat(obtain⟨_,hb⟩:=hb)))|((with_reducible refine cq (fun o2 ho=>?_));(try simp(disch:=assumption) only[hst]at ho);(repeat(obtain⟨_,ho⟩:=ho))))<;>(try simp(disch:=first|assumption|omega) only[go_sem,seval,aC, *]))))
   all_goals exact⟨_,w_ (Fg.refl _) (by rw[aR];exact⟨‹_›,‹_›⟩),m - 1,by omega,i+1,o2,by omega,by omega,rfl,‹_›,OwnOk.not (‹_›) hbf,ab,by(rw[show aA (List.map jU (List.take (i+1) ts))=_ from HT];((try simp(disch:=assumption) only[go_sem,seval, *])<;>rfl)),ab,ab,ab⟩
  ·have hiL:i=ts.length:=by omega
   subst hiL
   rw[f_]at e3
   have hjl:(Lib.join (ts.map jU) [44,32]).length<=10000000:=by
    have h1:=od 1000 [44,32] (ts.map jU) (fun t ht=>by
     obtain⟨x,hx,rfl⟩:=E_.1 ht
     exact(h3 x hx).1)
    simp only[a_,List.length_cons,List.length_nil]at h1
    have:ts.length*(1000+(0+1+1))<=1000*1002:=Nat.mul_le_mul h2 (by omega)
    omega
   have hjl2:(Lib.join (ts.map jU) [44,32]).length<=140737488355328:=by omega
   have hjn:(ts.map jU).length<=140737488355328:=by rw[a_];omega
   cases nt
   all_goals
    (repeat'(first|refine Ctl ?_|(with_reducible first|(refine j_ hK ?_;clear hK hE K E)|(refine j_ hKh ?_;clear hKh Kh)|(refine j_ hKb (aL ?_);clear hKb Kb)|refine aq 10 [([0,1,2,3],4,[[0,1,2]])] [5,6,7] hQe fun K E hK hE=>?_)|((with_reducible refine aj (fun h=>?_) (fun h=>?_))<;>(try(exfalso;assumption)))|(((with_reducible first|refine ae fun K E hK hE=>?_|refine ak rE (rY _ _ _ (‹_›) (‹_›) _) ?_|refine aE fun Kh hKh=>?_|refine aD fun Kh hKh=>?_|refine aM fun Kb hKb=>?_|refine mB ?_))<;>(try simp(disch:=first|assumption|omega) only[go_sem,seval,d_, *]))))
   all_goals(refine ap AU hQ ?_)
   all_goals(refine⟨_,_,Wk.of_eq ?_,?_,rfl,rfl⟩)
   all_goals first|exact(Fg.own hO).trans HF|(simp[gB];done)
def dmB (d:Dm):Bool:=di d.name && decide (0<=d.size) && decide (d.size<=9999999999)
def eS (d:Dcl):Bool:=di d.name && decide (d.doms.length≠0) && decide (d.doms.length<=8) && d.doms.all di
def dJ (x:Rul):Bool:=dh x.head && !x.head.not && decide (x.head.rel≠[100,111,109]) && decide (x.head.rel≠[114,101,108]) && decide (x.body.length<=8) && x.body.all dh
def cm (x:Pgm):Bool:=decide (x.doms.length<=32) && decide (x.decls.length<=32) && decide (x.rules.length<=64) && x.doms.all dmB && x.decls.all eS && x.rules.all dJ
def EP (d:Dm):Prop:=d.name.length<=140737488355328/\-9223372036854775808<=d.size/\d.size<=9223372036854775807
def yk (d:Dcl):Prop:=d.name.length<=140737488355328/\d.doms.length<=140737488355328/\∀t,t∈d.doms->t.length<=140737488355328
def CJ (x:Rul):Prop:=pf x.head/\x.body.length<=140737488355328/\∀a,a∈x.body->pf a
def PgmOk (x:Pgm):Prop:=x.doms.length<=140737488355328/\x.decls.length<=140737488355328/\x.rules.length<=140737488355328/\(∀d,d∈x.doms->EP d)/\(∀d,d∈x.decls->yk d)/\∀y,y∈x.rules->CJ y
theorem ge {l:List Dm}{i:Nat}{x:Dm}(h:l[i]?=some x):(l.map dmC)[i]?=some (dmC x):=by rw[c_,h];rfl
theorem dp {l:List Dcl}{i:Nat}{x:Dcl}(h:l[i]?=some x):(l.map az)[i]?=some (az x):=by rw[c_,h];rfl
theorem fc {l:List Rul}{i:Nat}{x:Rul}(h:l[i]?=some x):(l.map ax)[i]?=some (ax x):=by rw[c_,h];rfl
theorem cX {l:List Atm}{i:Nat}{x:Atm}(h:l[i]?=some x):(l.map aG)[i]?=some (aG x):=by rw[c_,h];rfl
theorem dm {l:List (List UInt8)}{i:Nat}{x:List UInt8}(h:l[i]?=some x):(aA l)[i]?=some [.str x]:=by simp[aA,h]
theorem tQ {n:List UInt8}{d:List (List UInt8)}(h:di n=false\/d.length=0\/8<d.length):eS ⟨n,d⟩=false:=by
 rcases h with h|h|h
 ·simp[eS,h]
 ·simp only[eS,h];simp
 ·have:¬ d.length<=8:=by omega
  simp[eS,this]
theorem sI {hn:Bool}{hr:List UInt8}{ht:List Trm}{b:List Atm}(h:hn=true\/dh ⟨hn,hr,ht⟩=false\/hr=[100,111,109]\/hr=[114,101,108]\/8<b.length):dJ ⟨⟨hn,hr,ht⟩,b⟩=false:=by
 rcases h with h|h|h|h|h
 ·simp[dJ,h]
 ·simp[dJ,h]
 ·simp[dJ,h]
 ·simp[dJ,h]
 ·have:¬ b.length<=8:=by omega
  simp[dJ,this]
set_option maxHeartbeats 4000000 in
theorem zZ (x:Pgm)(hx:PgmOk x)(s:St):SRet Tryz.prog 132 [.agg (pgC x)] s (.bool (cm x)) s:=by
  obtain⟨h1,h2,h3,h4,h5,h6⟩:=hx
  obtain⟨ds,cs,rs⟩:=x
  simp only at h1 h2 h3 h4 h5 h6
  refine aw Tryz.func132 rfl Tryz.ntmps132 rfl fun Q hQ hQe=>?_
  (repeat'(first|refine Ctl ?_|((with_reducible refine j_ hK ?_);clear hK hE K E)|((with_reducible refine aj (fun h=>?_) (fun h=>?_))<;>(try(exfalso;assumption)))|((first|(with_reducible refine ae fun K E hK hE=>?_)|((with_reducible refine ao (fun b hb=>?_)))|((with_reducible refine dy (fun h=>?_) (fun h=>?_))))<;>(try simp(disch:=omega) only[go_sem,seval,a_,pgC, *]))))
  all_goals first
    | ((first | refine ap ib hQ ?_ | refine en ib hQ ?_ | refine jm hQ ?_)
       (refine⟨_,_,Wk.of_eq ?_,?_,rfl,rfl⟩)
       · simp[cm];omega
       · (exact bC))
    |skip
  have hs32:ds.length<=32/\cs.length<=32/\rs.length<=64:=by omega
  have HS:=u_ hs32
  clear hs32
  have hb0:s.set b (.obj 26 [.lst (ds.map dmC) .no,.lst (cs.map az) .no,.lst (rs.map ax) .no]) b=.obj 26 [.lst (ds.map dmC) .no,.lst (cs.map az) .no,.lst (rs.map ax) .no]:=q_ _ _ _
  have hF0:Fg (s.set b (.obj 26 [.lst (ds.map dmC) .no,.lst (cs.map az) .no,.lst (rs.map ax) .no])) s:=v_ _ hb
  obtain⟨bp,hbp⟩:∃bp,bp=b:=⟨_,rfl⟩
  subst hbp
  generalize s.set bp (.obj 26 [.lst (ds.map dmC) .no,.lst (cs.map az) .no,.lst (rs.map ax) .no])=B at *
  have hbf:B bp≠.free:=by rw[hb0];simp
  have HF:=u_ hF0
  rename_i q1 q2
  clear hF0 hb q1 q2 h
  refine aI (fun m env s'=>∃i:Nat,i<=ds.length/\m+i=ds.length/\s'=B/\(ds.take i).all dmB=true/\env 1=.ptr bp 0/\env 30=.lst (ds.map dmC) .no/\env 31=.int .i64 ds.length/\env 32=.int .i64 i) ds.length ?_ ?_
  · exact⟨B,Fg.refl _,0,by omega,by omega,rfl,rfl,ab,ab,ab,ab⟩
  · rintro m env s' ⟨i,hi,hm,rfl,hall,e1,e30,e31,e32⟩
    by_cases hlt:i<ds.length
    · obtain⟨c,hc⟩:=aN hlt
      obtain⟨hc1,hc2,hc3⟩:=h4 c (p_ hc)
      have hsx:=ge hc
      have HX:=u_ hc
      have HH:=u_ hall
      clear hc hall
      obtain⟨cn,cz⟩:=c
      simp only at hc1 hc2 hc3
      (repeat'(first|refine Ctl ?_|((with_reducible refine j_ hK ?_);clear hK hE K E)|((with_reducible refine aj (fun h=>?_) (fun h=>?_))<;>(try(exfalso;assumption)))|((first|(with_reducible first|refine ae fun K E hK hE=>?_|refine ak oG (gE _ (by omega) _) ?_)|((with_reducible refine ao (fun b hb=>?_)))|((with_reducible refine dy (fun h=>?_) (fun h=>?_))))<;>(try simp(disch:=omega) only[go_sem,seval,dmC, *]))))
      all_goals first
        | (have hres : cm ⟨ds, cs, rs⟩ = false := by unfold cm; simp only; rw [bO (p := dmB) HX.out (by simp [dmB]; grind)]; simp
           (refine ap ib hQ ?_)
           (refine⟨_,_,Wk.of_eq ?_,?_,rfl,rfl⟩)
           · rw[hres]
           · exact(v_ _ hb).trans HF)
        |exact⟨s',v_ _ hb,m - 1,by omega,i+1,by omega,by omega,rfl,bE HH.out HX.out (by simp[dmB];grind),ab,ab,ab,ab⟩
    · have hiL:i=ds.length:=by omega
      rw[hiL,f_]at hall
      have HA:=u_ hall
      clear hall
      (repeat'(first|refine Ctl ?_|((with_reducible refine j_ hK ?_);clear hK hE K E)|((with_reducible refine aj (fun h=>?_) (fun h=>?_))<;>(try(exfalso;omega)))|(((with_reducible refine ae fun K E hK hE=>?_))<;>(try simp(disch:=omega) only[go_sem,seval,a_, *]))))
      clear e30 e31 e32 h hlt hiL hi hm
      refine aI (fun m env t=>∃i:Nat,i<=cs.length/\m+i=cs.length/\t=s'/\(cs.take i).all eS=true/\env 1=.ptr bp 0/\env 52=.lst (cs.map az) .no/\env 53=.int .i64 cs.length/\env 54=.int .i64 i) cs.length ?_ ?_
      · exact⟨s',Fg.refl _,0,by omega,by omega,rfl,rfl,ab,ab,ab,ab⟩
      · clear e1 env
        rintro m env t ⟨i,hi,hm,rfl,hall,e1,e52,e53,e54⟩
        by_cases hlt:i<cs.length
        · obtain⟨c,hc⟩:=aN hlt
          obtain⟨hc1,hc2,hc3⟩:=h5 c (p_ hc)
          have hsx:=dp hc
          have HX:=u_ hc
          have HH:=u_ hall
          clear hc hall
          obtain⟨cn,cd⟩:=c
          simp only at hc1 hc2 hc3
          have hsl:(aA cd).length=cd.length:=by simp[aA]
          (repeat'(first|refine Ctl ?_|((with_reducible refine j_ hK ?_);clear hK hE K E)|((with_reducible refine aj (fun h=>?_) (fun h=>?_))<;>(try(exfalso;assumption)))|((first|(with_reducible first|refine ae fun K E hK hE=>?_|refine ak oG (gE _ (by omega) _) ?_)|((with_reducible refine ao (fun b hb=>?_)))|((with_reducible refine dy (fun h=>?_) (fun h=>?_))))<;>(try simp(disch:=omega) only[go_sem,seval,az, *]))))
          all_goals first
            | (have hres : cm ⟨ds, cs, rs⟩ = false := by unfold cm; simp only; rw [bO (p := eS) HX.out (tQ (by first | exact .inl (‹_›) | exact .inr (.inl (by have := of_eq_true (by assumption : ((cd.length : Int) = 0) = True); omega)) | exact .inr (.inr (by omega))))]; simp
               (refine ap ib hQ ?_)
               (refine⟨_,_,Wk.of_eq ?_,?_,rfl,rfl⟩)
               · rw[hres]
               · exact(v_ _ hb).trans HF)
            |skip
          have HG:di cn=true/\cd.length≠0/\cd.length<=8:=⟨‹_›,by omega,by omega⟩
          refine aI (fun m2 env t'=>∃j:Nat,j<=cd.length/\m2+j=cd.length/\t'=t/\(cd.take j).all di=true/\env 1=.ptr bp 0/\env 52=.lst (cs.map az) .no/\env 53=.int .i64 cs.length/\env 54=.int .i64 i /\
            env 75=.lst (aA cd) .no/\env 76=.int .i64 cd.length/\env 77=.int .i64 j) cd.length ?_ ?_
          · exact⟨t,v_ _ hb,0,by omega,by omega,rfl,rfl,ab,ab,ab,ab,ab,ab,ab⟩
          · rename_i q1 q2 q3
            clear e1 e52 e53 e54 env q1 q2 q3 h hb b
            rintro m2 env t' ⟨j,hj,hm2,rfl,hall,e1,e52,e53,e54,e75,e76,e77⟩
            by_cases hlt2:j<cd.length
            · obtain⟨c,hc⟩:=aN hlt2
              have hcl:=hc3 c (p_ hc)
              have hsy:=dm hc
              have HY:=u_ hc
              have HH2:=u_ hall
              clear hc hall
              (repeat'(first|refine Ctl ?_|((with_reducible refine j_ hK ?_);clear hK hE K E)|((with_reducible refine aj (fun h=>?_) (fun h=>?_))<;>(try(exfalso;assumption)))|(((with_reducible first|refine ae fun K E hK hE=>?_|refine ak oG (gE _ (by omega) _) ?_))<;>(try simp(disch:=omega) only[go_sem,seval, *]))))
              all_goals first
                | (have hres : cm ⟨ds, cs, rs⟩ = false := by unfold cm; simp only; rw [bO (p := eS) HX.out (by unfold eS; simp only; rw [bO (p := di) HY.out (‹_›)]; simp)]; simp
                   (refine ap ib hQ ?_)
                   (refine⟨_,_,Wk.of_eq ?_,?_,rfl,rfl⟩)
                   · rw[hres]
                   · exact HF)
                |exact⟨t',Fg.refl _,m2 - 1,by omega,j+1,by omega,by omega,rfl,bE HH2.out HY.out (‹_›),ab,ab,ab,ab,ab,ab,ab⟩
            · have hjL:j=cd.length:=by omega
              rw[hjL,f_]at hall
              have HA2:=u_ hall
              clear hall
              (repeat'(first|refine Ctl ?_|((with_reducible refine j_ hK ?_);clear hK hE K E)|((with_reducible refine aj (fun h=>?_) (fun h=>?_))<;>(try(exfalso;omega)))|(((with_reducible refine ae fun K E hK hE=>?_))<;>(try simp(disch:=omega) only[go_sem,seval, *]))))
              exact⟨t',Fg.refl _,m - 1,by omega,i+1,by omega,by omega,rfl,bE HH.out HX.out (by have:=HA2.out;simp[eS,HG,this]),ab,ab,ab,ab⟩
        · have hiL:i=cs.length:=by omega
          rw[hiL,f_]at hall
          have HA2:=u_ hall
          clear hall
          (repeat'(first|refine Ctl ?_|((with_reducible refine j_ hK ?_);clear hK hE K E)|((with_reducible refine aj (fun h=>?_) (fun h=>?_))<;>(try(exfalso;omega)))|(((with_reducible refine ae fun K E hK hE=>?_))<;>(try simp(disch:=omega) only[go_sem,seval,a_, *]))))
          clear e52 e53 e54 h hlt hiL hi hm
          refine aI (fun m env s'=>∃i:Nat,i<=rs.length/\m+i=rs.length/\s'=t/\(rs.take i).all dJ=true/\env 1=.ptr bp 0/\env 87=.lst (rs.map ax) .no/\env 88=.int .i64 rs.length/\env 89=.int .i64 i) rs.length ?_ ?_
          · exact⟨t,Fg.refl _,0,by omega,by omega,rfl,rfl,ab,ab,ab,ab⟩
          · clear e1 env
            rintro m env s' ⟨i,hi,hm,rfl,hall,e1,e87,e88,e89⟩
            by_cases hlt:i<rs.length
            · obtain⟨c,hc⟩:=aN hlt
              obtain⟨hc1,hc2,hc3⟩:=h6 c (p_ hc)
              have hsx:=fc hc
              have HX:=u_ hc
              have HH:=u_ hall
              clear hc hall
              obtain⟨⟨hn,hr,ht⟩,cb⟩:=c
              simp only at hc1 hc2 hc3
              cases hn
              all_goals
                (repeat'(first|refine Ctl ?_|((with_reducible refine j_ hK ?_);clear hK hE K E)|((with_reducible refine aj (fun h=>?_) (fun h=>?_))<;>(try(exfalso;assumption)))|((first|(with_reducible first|refine ae fun K E hK hE=>?_|refine ak B5 (zY _ _ (‹_›) _) ?_)|((with_reducible refine ao (fun b hb=>?_)))|((with_reducible refine dy (fun h=>?_) (fun h=>?_))))<;>(try simp(disch:=omega) only[go_sem,seval,a_,ax, *]))))
              all_goals first
                | (have hres : cm ⟨ds, cs, rs⟩ = false := by unfold cm; simp only; rw [bO (p := dJ) HX.out (sI (by first | exact .inl rfl | exact .inr (.inl (‹_›)) | exact .inr (.inr (.inl (of_eq_true (‹_›)))) | exact .inr (.inr (.inr (.inl (of_eq_true (‹_›))))) | exact .inr (.inr (.inr (.inr (by omega))))))]; simp
                   (refine ap ib hQ ?_)
                   (refine⟨_,_,Wk.of_eq ?_,?_,rfl,rfl⟩)
                   · rw[hres]
                   · exact(v_ _ hb).trans HF)
                |skip
              have HG:dh ⟨false,hr,ht⟩=true/\¬ hr=[100,111,109]/\¬ hr=[114,101,108]/\cb.length<=8:=⟨‹_›,‹_›,‹_›,by omega⟩
              refine aI (fun m2 env t'=>∃j:Nat,j<=cb.length/\m2+j=cb.length/\t'=s'/\(cb.take j).all dh=true/\env 1=.ptr bp 0/\env 87=.lst (rs.map ax) .no/\env 88=.int .i64 rs.length/\env 89=.int .i64 i /\
                env 121=.lst (cb.map aG) .no/\env 122=.int .i64 cb.length/\env 123=.int .i64 j) cb.length ?_ ?_
              · exact⟨s',v_ _ hb,0,by omega,by omega,rfl,rfl,ab,ab,ab,ab,ab,ab,ab⟩
              · rename_i q1 q2 q3 q4
                clear e1 e87 e88 e89 env q1 q2 q3 q4 h hb b
                rintro m2 env t' ⟨j,hj,hm2,rfl,hall,e1,e87,e88,e89,e121,e122,e123⟩
                by_cases hlt2:j<cb.length
                · obtain⟨c,hc⟩:=aN hlt2
                  have hcl:=hc3 c (p_ hc)
                  have hsy:=cX hc
                  have HY:=u_ hc
                  have HH2:=u_ hall
                  clear hc hall
                  obtain⟨an,ar,at_⟩:=c
                  (repeat'(first|refine Ctl ?_|((with_reducible refine j_ hK ?_);clear hK hE K E)|((with_reducible refine aj (fun h=>?_) (fun h=>?_))<;>(try(exfalso;assumption)))|((first|(with_reducible first|refine ae fun K E hK hE=>?_|refine ak B5 (zY _ _ (‹_›) _) ?_)|((with_reducible refine ao (fun b hb=>?_))))<;>(try simp(disch:=omega) only[go_sem,seval,aG, *]))))
                  all_goals first
                    | (have hres : cm ⟨ds, cs, rs⟩ = false := by unfold cm; simp only; rw [bO (p := dJ) HX.out (by unfold dJ; simp only; rw [bO (p := dh) HY.out (‹_›)]; simp)]; simp
                       (refine ap ib hQ ?_)
                       (refine⟨_,_,Wk.of_eq ?_,?_,rfl,rfl⟩)
                       · rw[hres]
                       · exact(v_ _ hb).trans HF)
                    |exact⟨t',v_ _ hb,m2 - 1,by omega,j+1,by omega,by omega,rfl,bE HH2.out HY.out (‹_›),ab,ab,ab,ab,ab,ab,ab⟩
                · have hjL:j=cb.length:=by omega
                  rw[hjL,f_]at hall
                  have HA3:=u_ hall
                  clear hall
                  (repeat'(first|refine Ctl ?_|((with_reducible refine j_ hK ?_);clear hK hE K E)|((with_reducible refine aj (fun h=>?_) (fun h=>?_))<;>(try(exfalso;omega)))|(((with_reducible refine ae fun K E hK hE=>?_))<;>(try simp(disch:=omega) only[go_sem,seval, *]))))
                  exact⟨t',Fg.refl _,m - 1,by omega,i+1,by omega,by omega,rfl,bE HH.out HX.out (by have:=HA3.out;simp[dJ,HG,this]),ab,ab,ab,ab⟩
            · have hiL:i=rs.length:=by omega
              rw[hiL,f_]at hall
              have HA3:=u_ hall
              clear hall
              (repeat'(first|refine Ctl ?_|((with_reducible refine j_ hK ?_);clear hK hE K E)|((with_reducible refine aj (fun h=>?_) (fun h=>?_))<;>(try(exfalso;omega)))|(((with_reducible refine ae fun K E hK hE=>?_))<;>(try simp(disch:=omega) only[go_sem,seval, *]))))
              all_goals(refine ap ib hQ ?_)
              all_goals(refine⟨_,_,Wk.of_eq ?_,?_,rfl,rfl⟩)
              · obtain⟨k1,k2,k3⟩:=HS.out
                have k4:=HA.out
                have k5:=HA2.out
                have k6:=HA3.out
                simp[cm, *]
              · exact HF
def da:List Dm->List UInt8->Int
 |[],_=>0
 |d::r,n=>if n=d.name then d.size else da r n
def cO (cs:List Dcl)(n:List UInt8):Option Nat:=ixT n (cs.map (·.name))
def cp (p:Pgm):Int:=
 if cm p=false then 1
 else if p.doms.any (fun d=>decide (d.size<1) || decide (1073741824<d.size))=true then 1
 else if ¬ (p.doms.map (·.name)).Nodup\/¬ (p.decls.map (·.name)).Nodup then 120
 else if p.decls.any (fun d=>d.doms.any fun s=>decide (da p.doms s=0))=true then 121
 else 0
structure Scp where
 vs:List (List UInt8)
 ds:List (List UInt8)
def ep (dz:List UInt8->Int)(x:Scp)(t:Trm)(d:List UInt8):Except Int Scp:=
 if t.var=false then(if dz d<=t.n then .error 123 else .ok x)
 else match ixT t.nm x.vs with
  |none=>.ok ⟨x.vs++[t.nm],x.ds++[d]⟩
  |some i=>if x.ds[i]?=some d then .ok x else .error 124
def eb {α β:Type}(x:Except Int α)(k:α->Except Int β):Except Int β:=
 match x with
 |.ok a=>k a
 |.error e=>.error e
def c5 (dz:List UInt8->Int):Scp->List Trm->List (List UInt8)->Except Int Scp
 |x,t::ts,d::ds=>eb (ep dz x t d) fun x=>c5 dz x ts ds
 |x,_,_=>.ok x
def bU (p:Pgm)(x:Scp)(a:Atm):Except Int Scp:=
 match cO p.decls a.rel with
 |none=>.error 121
 |some k=>
  match p.decls[k]? with
  |none=>.error 121
  |some d=>if a.ts.length≠d.doms.length then .error 122 else c5 (da p.doms) x a.ts d.doms
def cL (p:Pgm):Scp->List Atm->Except Int Scp
 |x,[]=>.ok x
 |x,a::l=>eb (bU p x a) fun x=>cL p x l
def c8 (body:List Atm)(n:List UInt8):Bool:=body.any fun a=>!a.not && a.ts.any fun t=>t.var && decide (t.nm=n)
def cM (body:List Atm)(a:Atm):Bool:=a.ts.all fun t=>!t.var || c8 body t.nm
def bJ (p:Pgm)(r:Rul):Except Int Scp:=
 eb (bU p ⟨[],[]⟩ r.head) fun x=>eb (cL p x r.body) fun x=>
  if (cM r.body r.head && r.body.all (cM r.body))=false then .error 125 else if 8<x.vs.length then .error 2 else .ok x
def em (p:Pgm):Nat->List Rul->Option (Nat×Int)
 |_,[]=>none
 |k,r::l=>match bJ p r with|.error e=>some (k,e)|.ok _=>em p (k+1) l
def ixR (p:Pgm)(n:List UInt8):Nat:=(cO p.decls n).getD 0
def gd (p:Pgm)(r:Rul):List Edg:=r.body.map fun a=>⟨ixR p r.head.rel,ixR p a.rel,if a.not=true then 1 else 0⟩
def eJ (p:Pgm):List Edg:=(p.rules.map (gd p)).flatten
noncomputable def stgP (p:Pgm):Option (List Nat):=stg p.decls.length (eJ p)
noncomputable def soundP (p:Pgm):Int×Int×List Nat:=
 if cp p≠0 then(-1,cp p,[])
 else match em p 0 p.rules with
  |some (k,e)=>(k,e,[])
  |none=>match stgP p with
   |none=>(-1,126,[])
   |some l=>(-1,0,l)
theorem dX {α β:Type}{a:α}{k:α->Except Int β}:eb (.ok a) k=k a:=rfl
theorem jb {α β:Type}{e:Int}{k:α->Except Int β}:eb (.error e) k=.error e:=rfl
def szA (ds:List Dm):List (List UInt8×Int):=dO (fun d:Dm=>d.name) (fun _ d=>d.size) 0 ds
def rlA (cs:List Dcl):List (List UInt8×Int):=dO (fun d:Dcl=>d.name) (fun i _=>(i:Int)) 0 cs
theorem qG {ds:List Dm}(n:List UInt8):(lkA n (szA ds)).getD 0=da ds n:=by
 have:∀i (ds:List Dm),(lkA n (dO (fun d:Dm=>d.name) (fun(_:Nat) d=>d.size) i ds)).getD 0=da ds n:=by
  intro i ds
  induction ds generalizing i with
  |nil=>rfl
  |cons d r ih=>
   simp only[dO,lkA,da]
   by_cases e:n=d.name
   ·rw[if_pos e,if_pos e];rfl
   ·rw[if_neg e,if_neg e,ih]
 exact this 0 ds
theorem j6 {cs:List Dcl}(n:List UInt8):lkA n (rlA cs)=Option.map (fun i:Nat=>(i:Int)) (cO cs n):=by
 unfold rlA cO
 rw[jw]
 cases h:ixT n (cs.map (·.name))with
 |none=>rfl
 |some j=>
  have hj:=cI h
  rw[c_]at hj
  obtain⟨d,hd,_⟩:=Option.map_eq_some_iff.1 hj
  simp[hd]
abbrev Asg:=List (Option Int)
def cC (vars:List (List UInt8))(e:Asg)(t:Trm)(v:Int):Option Asg:=
 if t.var=false then(if t.n=v then some e else none)
 else match ixT t.nm vars with
  |none=>none
  |some s=>match e[s]? with
   |none=>none
   |some none=>some (e.set s (some v))
   |some (some w)=>if w=v then some e else none
def aP (vars:List (List UInt8)):Asg->List Trm->List Int->Option Asg
 |e,t::ts,v::vs=>(cC vars e t v).bind fun e=>aP vars e ts vs
 |e,_,_=>some e
abbrev Tbs:=List UInt8->List (List Int)
def dI (T:Tbs)(vars:List (List UInt8)):List Atm->Asg->List Asg
 |[],e=>[e]
 |a::l,e=>(T a.rel).flatMap fun t=>match aP vars e a.ts t with
  |some e'=>dI T vars l e'
  |none=>[]
def eF (vars:List (List UInt8))(row:List Int)(t:Trm):Int:=if t.var=true then(row[(ixT t.nm vars).getD 0]?).getD 0 else t.n
def aU (vars:List (List UInt8))(row:List Int)(ts:List Trm):List Int:=ts.map (eF vars row)
def fi (e:Asg):List Int:=e.map (·.getD 0)
def cE (l:List Atm):List Atm:=l.filter fun a=>!a.not
def cK (l:List Atm):List Atm:=l.filter fun a=>a.not
def dB (T:Tbs)(vars:List (List UInt8))(l:List Atm)(row:List Int):Bool:=l.all fun a=>decide (aU vars row a.ts∉T a.rel)
def cU (vars:List (List UInt8)):Asg:=List.replicate vars.length none
def eT (T:Tbs)(vars:List (List UInt8))(body:List Atm):List (List Int):=((dI T vars (cE body) (cU vars)).map fi).filter (dB T vars (cK body))
theorem p9 {vars:List (List UInt8)}{e e':Asg}{t:Trm}{v:Int}(h:cC vars e t v=some e'):e'.length=e.length:=by
 unfold cC at h
 split at h
 ·split at h
  ·injection h with h;rw[h]
  ·cases h
 ·split at h
  ·cases h
  ·split at h
   ·cases h
   ·injection h with h;rw[<- h];simp
   ·split at h
    ·injection h with h;rw[h]
    ·cases h
theorem fV {vars:List (List UInt8)}:∀{ts:List Trm} {vs:List Int} {e e':Asg},aP vars e ts vs=some e'->e'.length=e.length
 |t::ts,v::vs,e,e',h=>by
  simp only[aP]at h
  cases h1:cC vars e t v with
  |none=>rw[h1]at h;cases h
  |some e1=>
   rw[h1]at h
   exact(fV (ts:=ts) h).trans (p9 h1)
 |[],_,e,e',h=>by simp only[aP]at h;injection h with h;rw[h]
 |_::_,[],e,e',h=>by simp only[aP]at h;injection h with h;rw[h]
theorem fE {T:Tbs}{vars:List (List UInt8)}:∀{l:List Atm} {e e':Asg},e'∈dI T vars l e->e'.length=e.length
 |[],e,e',h=>by simp only[dI,e_]at h;rw[h]
 |a::l,e,e',h=>by
  simp only[dI,List.mem_flatMap]at h
  obtain⟨t,_,h⟩:=h
  cases h1:aP vars e a.ts t with
  |none=>rw[h1]at h;cases h
  |some e1=>
   rw[h1]at h
   exact(fE h).trans (fV h1)
def c6 {A:Type}(f:A->List Int->A×Bool):A->List (List Int)->A×Bool
 |a,[]=>(a,true)
 |a,r::l=>if (f a r).2=true then c6 f (f a r).1 l else((f a r).1,false)
theorem nD {A:Type}(f:A->List Int->A×Bool):∀(l m:List (List Int)) (a:A),c6 f a (l++m)=if (c6 f a l).2=true then c6 f (c6 f a l).1 m else c6 f a l
 |[],m,a=>by simp[c6]
 |r::l,m,a=>by
  simp only[List.cons_append,c6]
  split
  ·exact nD f l m _
  ·simp
def eP (T:Tbs)(vars:List (List UInt8))(most:Nat):List Atm->List Asg->Option (List Asg)
 |[],rows=>some rows
 |a::l,rows=>if a.not=true then eP T vars most l rows else
  if most<(rows.flatMap fun e=>(T a.rel).filterMap (aP vars e a.ts)).length then none else eP T vars most l (rows.flatMap fun e=>(T a.rel).filterMap (aP vars e a.ts))
theorem jg {T:Tbs}{vars:List (List UInt8)}{most:Nat}:∀{l:List Atm} {rows R:List Asg},eP T vars most l rows=some R->R=rows.flatMap (dI T vars (cE l))
 |[],rows,R,h=>by
  simp only[eP]at h
  injection h with h
  subst h
  simp only[cE,List.filter_nil]
  have:dI T vars []=fun e=>[e]:=by funext e;rfl
  rw[this,List.flatMap_singleton' ]
 |a::l,rows,R,h=>by
  simp only[eP]at h
  by_cases hn:a.not=true
  ·rw[if_pos hn]at h
   rw[jg h]
   simp[cE,hn]
  ·rw[if_neg hn]at h
   split at h
   ·cases h
   ·rw[jg h,List.flatMap_assoc]
    have hp:cE (a::l)=a::cE l:=by simp[cE,hn]
    rw[hp]
    congr 1
    funext e
    simp only[dI]
    generalize T a.rel=ts
    induction ts with
    |nil=>rfl
    |cons t ts ih=>
     rw[List.filterMap_cons,List.flatMap_cons,<- ih]
     cases aP vars e a.ts t with
     |none=>rfl
     |some e1=>rfl
def Sml (r:List Int):Prop:=r.length<=100000/\∀n,n∈r->0<=n/\n<256
theorem zA {a b:Int}(ha:0<=a/\a<256)(hb:0<=b/\b<256)(h:c9 a 8=c9 b 8):a=b:=by
 have h0:oH a 0=oH b 0:=by
  have h1:(c9 a 8)[0]?=(c9 b 8)[0]?:=by rw[h]
  simpa [c9]using h1
 have h2:=km a 0
 have h3:=km b 0
 rw[h0,<- h3]at h2
 have h4:∀z:Int,IntKind.u8.wrap z=z % 256:=fun z=>rfl
 rw[h4,h4]at h2
 have h5:∀z:Int,z.fdiv (2 ^ (8*0))=z:=fun z=>by simp
 rw[h5,h5]at h2
 omega
theorem ll:∀{a b:List Int},(∀n,n∈a->0<=n/\n<256)->(∀n,n∈b->0<=n/\n<256)->dG a=dG b->a=b
 |[],[],_,_,_=>rfl
 |[],b::bs,_,_,h=>by
  have:=congrArg List.length h
  rw[gF,gF]at this
  simp at this
 |a::ar,[],_,_,h=>by
  have:=congrArg List.length h
  rw[gF,gF]at this
  simp at this
 |a::ar,b::bs,ha,hb,h=>by
  have h1:c9 a 8++dG ar=c9 b 8++dG bs:=h
  obtain⟨h2,h3⟩:=List.append_inj h1 (by rw[it,it])
  rw[zA (ha a (by simp)) (hb b (by simp)) h2,ll (fun n hn=>ha n (by simp[hn])) (fun n hn=>hb n (by simp[hn])) h3]
def gR (l:List (List Int)):List (List UInt8×Bool):=l.map fun r=>(dG r,true)
theorem gO {r:List Int}(hr:Sml r):∀{l:List (List Int)},(∀x,x∈l->Sml x)->lkA (dG r) (gR l)=if r∈l then some true else none
 |[],_=>by simp[gR,lkA]
 |a::l,hl=>by
  have ih:=gO hr (l:=l) fun x hx=>hl x (by simp[hx])
  simp only[gR,List.map_cons,lkA]at ih ⊢
  by_cases h:r=a
  ·subst h;simp
  ·have h2:¬ dG r=dG a:=fun e=>h (ll hr.2 (hl a (by simp)).2 e)
   rw[if_neg h2,ih]
   simp[h]
theorem nP {r:List Int}(hr:Sml r):∀{l:List (List Int)},(∀x,x∈l->Sml x)->r∉l->ptA (dG r) true (gR l)=gR (l++[r])
 |[],_,_=>by simp[gR,ptA]
 |a::l,hl,hn=>by
  have ih:=nP hr (l:=l) (fun x hx=>hl x (by simp[hx])) fun h=>hn (by simp[h])
  have h:¬ r=a:=fun e=>hn (by simp[e])
  simp only[gR,List.map_cons,ptA,List.cons_append]at ih ⊢
  have h2:¬ dG r=dG a:=fun e=>h (ll hr.2 (hl a (by simp)).2 e)
  rw[if_neg h2,ih]
def eu (l:List (List Int))(g:Nat):VV:=match l with|[]=>.raw (.slice none 0 0)|_::_=>.mrw g l.length
def ow (t:St)(l:List (List Int))(g:Nat):St:=match l with|[]=>t|_::_=>t.set g .free
structure TabAt (t:St) (b m g:Nat) (l:List (List Int)):Prop where
 o:t b=.obj 81 [eu l g,.mp m]
 h:t m=.map (mpV cW (gR l))
 r:l≠[]->t g=.row 48 1 (l.map ca)
 s:∀x,x∈l->Sml x
 n:l.length<=1000000000
set_option maxHeartbeats 4000000 in
theorem CR (t:St)(b m g:Nat)(l:List (List Int))(r:List Int)(hT:TabAt t b m g l)(hr:Sml r)(hm:r∈l):SRet Tryz.prog 51 [.ptr b 0,ca r] t (.bool false) t:=by
 have w1:=fun s=>mW r (by have:=hr.1;omega) s
 have hk:=gO hr hT.s
 rw[if_pos hm]at hk
 obtain⟨h1,h2,_,_,_⟩:=hT
 generalize gR l=L at *
 generalize dG r=R at *
 generalize eu l g=F at *
 clear hm hr
 refine aw Tryz.func51 rfl Tryz.ntmps51 rfl fun Q hQ hQe=>?_
 (repeat'(first|refine Ctl ?_|((with_reducible refine j_ hK ?_);clear hK hE K E)|((with_reducible refine aj (fun h=>?_) (fun h=>?_))<;>(try(exfalso;assumption)))|(((with_reducible first|refine ae fun K E hK hE=>?_|refine ak k9 (w1 _) ?_))<;>(try simp(disch:=omega) only[go_sem,seval,Option.getD_some, *]))))
 all_goals(refine ap wM hQ ?_)
 all_goals(refine⟨_,_,Wk.of_eq ?_,?_,rfl,rfl⟩)
 all_goals first|rfl|(exact bC)
theorem Db {t:St}{b m g bM:Nat}{c1 c2:VV}{e e2:List (VV×VV)}(h1:t b=.obj 81 [c1,c2])(h2:t m=.map e)(n2:¬ b=g)(n3:¬ m=g)(hM:(t.set m (.map e2)).set g .free bM=.free):¬ b=bM/\¬ m=bM/\(t.set g .free) bM=.free:=by
 refine⟨?_,?_,?_⟩
 ·rintro rfl
  have n1:¬ b=m:=by rintro rfl;rw[h1]at h2;cases h2
  rw[k_ _ _ n2,k_ _ _ n1,h1]at hM
  cases hM
 ·rintro rfl
  rw[k_ _ _ n3,q_]at hM
  cases hM
 ·by_cases e:bM=g
  ·subst e;exact q_ _ _ _
  ·rw[k_ _ _ e]at hM ⊢
   by_cases e':bM=m
   ·subst e';rw[q_]at hM;cases hM
   ·rw[k_ _ _ e']at hM;exact hM
theorem Ap {t:St}{b m bM:Nat}{c1 c2:VV}{e e2:List (VV×VV)}(h1:t b=.obj 81 [c1,c2])(h2:t m=.map e)(hM:(t.set m (.map e2)) bM=.free):¬ b=bM/\¬ m=bM/\t bM=.free:=by
 have n1:¬ b=m:=by rintro rfl;rw[h1]at h2;cases h2
 refine⟨?_,?_,?_⟩
 ·rintro rfl
  rw[k_ _ _ n1,h1]at hM
  cases hM
 ·rintro rfl
  rw[q_]at hM
  cases hM
 ·by_cases e':bM=m
  ·subst e';rw[q_]at hM;cases hM
  ·rw[k_ _ _ e']at hM;exact hM
set_option maxHeartbeats 4000000 in
theorem CS (t:St)(b m g:Nat)(l:List (List Int))(r:List Int)(hT:TabAt t b m g l)(hr:Sml r)(hm:r∉l)(hn:l.length<1000000000) :
  SCalls Tryz.prog 51 [.ptr b 0,ca r] t fun w u=>∃g',w=.ret (.bool true)/\u=((ow (t.set m (.map (mpV cW (gR (l++[r]))))) l g).set g' (.row 48 1 ((l++[r]).map ca))).set b (.obj 81 [.mrw g' (l.length+1),.mp m])/\(ow t l g g'=.free/\g'≠b/\g'≠m):=by
 have w1:=fun s=>mW r (by have:=hr.1;omega) s
 have hk:=gO hr hT.s
 rw[if_neg hm]at hk
 have hp:=nP hr hT.s hm
 obtain⟨h1,h2,h3,_,_⟩:=hT
 cases l with
 |nil=>
  simp only[eu]at h1
  have hap:([]++[r]).map ca=[ca r]:=rfl
  rw[hap]
  simp only[ow]
  generalize gR ([]++[r])=L2 at *
  generalize gR []=L at *
  generalize dG r=R at *
  have hv1:(ca r).cells=[ca r]:=rfl
  have hv2:[ca r].all VV.one=true:=rfl
  generalize ca r=V at *
  have n1:¬ b=m:=by rintro rfl;rw[h1]at h2;cases h2
  have n4:¬ m=b:=fun e=>n1 e.symm
  clear hr hm hn hap h3
  refine aw Tryz.func51 rfl Tryz.ntmps51 rfl fun Q hQ hQe=>?_
  (repeat'(first|refine Ctl ?_|((with_reducible refine j_ hK ?_);clear hK hE K E)|((with_reducible refine aj (fun h=>?_) (fun h=>?_))<;>(try(exfalso;assumption)))|((first|(with_reducible first|refine ae fun K E hK hE=>?_|refine ak k9 (w1 _) ?_)|((with_reducible refine oX (fun bM hM=>?_));(try(obtain⟨m1,m2,m3⟩:=Ap h1 h2 hM))))<;>(try simp(disch:=omega) only[go_sem,seval,Option.getD_none, *]))))
  all_goals(refine ap wM hQ ?_)
  all_goals exact⟨_,_,Wk.refl _,bC,bM,rfl,rfl,m3,fun e=>m1 e.symm,fun e=>m2 e.symm⟩
 |cons a l=>
  replace h3:=h3 (by simp)
  simp only[eu]at h1
  have hll:(a::l).length<1000000000:=hn
  have hap:((a::l)++[r]).map ca=(a::l).map ca++[ca r]:=by simp
  rw[hap]
  generalize gR (a::l++[r])=L2 at *
  have hlm:((a::l).map ca).length=(a::l).length:=by simp
  generalize (a::l).map ca=M at *
  generalize (a::l).length=n at *
  generalize gR (a::l)=L at *
  generalize dG r=R at *
  have hv1:(ca r).cells=[ca r]:=rfl
  have hv2:[ca r].all VV.one=true:=rfl
  generalize ca r=V at *
  have n1:¬ b=m:=by rintro rfl;rw[h1]at h2;cases h2
  have n2:¬ b=g:=by rintro rfl;rw[h1]at h3;cases h3
  have n3:¬ m=g:=by rintro rfl;rw[h2]at h3;cases h3
  have n4:¬ m=b:=fun e=>n1 e.symm
  have n5:¬ g=b:=fun e=>n2 e.symm
  have n6:¬ g=m:=fun e=>n3 e.symm
  clear hr hm hn hap
  refine aw Tryz.func51 rfl Tryz.ntmps51 rfl fun Q hQ hQe=>?_
  (repeat'(first|refine Ctl ?_|((with_reducible refine j_ hK ?_);clear hK hE K E)|((with_reducible refine aj (fun h=>?_) (fun h=>?_))<;>(try(exfalso;assumption)))|((first|(with_reducible first|refine ae fun K E hK hE=>?_|refine ak k9 (w1 _) ?_)|((with_reducible refine vX (fun bM hM=>?_));(try(obtain⟨m1,m2,m3⟩:=Db h1 h2 n2 n3 hM))))<;>(try simp(disch:=omega) only[go_sem,seval,Option.getD_none, *]))))
  all_goals(refine ap wM hQ ?_)
  all_goals exact⟨_,_,Wk.refl _,bC,bM,rfl,rfl,m3,fun e=>m1 e.symm,fun e=>m2 e.symm⟩
def og (r:List Int)(l:List (List Int)):List (List Int):=if r∈l then l else l++[r]
def Keep (t u:St)(F:Nat->Prop):Prop:=∀x,t x≠.free->¬ F x->u x=t x
theorem Keep.refl (t:St)(F:Nat->Prop):Keep t t F:=fun _ _ _=>rfl
theorem Keep.trans {a b c:St}{F F':Nat->Prop}(h:Keep a b F)(k:Keep b c F')(hF:∀x,a x≠.free->F' x->F x):Keep a c F:=fun x hx hn=>by
 have h1:=h x hx hn
 have h2:=k x (by rw[h1];exact hx) fun h'=>hn (hF x hx h')
 rw[h2,h1]
theorem Keep.fg {t u s:St}{F:Nat->Prop}(h:Keep t u F)(hf:Fg t s)(hF:∀x,F x->s x=.free):Fg u s:=fun x=>by
 rcases hf x with e|e
 ·exact .inl e
 ·by_cases hx:s x=.free
  ·exact .inl hx
  ·have h1:t x≠.free:=by rw[<- e];exact hx
   exact .inr (e.trans (h x h1 fun hFx=>hx (hF x hFx)).symm)
def gi (b m g:Nat)(l:List (List Int))(x:Nat):Prop:=x=b\/x=m\/(l≠[]/\x=g)
theorem TabAt.keep {t u:St}{b m g:Nat}{l:List (List Int)}(h:TabAt t b m g l)(hk:∀x,gi b m g l x->u x=t x):TabAt u b m g l:=
 ⟨(hk b (.inl rfl)).trans h.o,(hk m (.inr (.inl rfl))).trans h.h,fun hl=>(hk g (.inr (.inr ⟨hl,rfl⟩))).trans (h.r hl),h.s,h.n⟩
theorem TabAt.bm {t:St}{b m g:Nat}{l:List (List Int)}(h:TabAt t b m g l):b≠m:=by
 rintro rfl
 have h1:=h.o
 rw[h.h]at h1
 cases h1
theorem TabAt.live {t:St}{b m g:Nat}{l:List (List Int)}(h:TabAt t b m g l){x:Nat}(hx:gi b m g l x):t x≠.free:=by
 rcases hx with rfl|rfl|⟨hl,rfl⟩
 ·rw[h.o];simp
 ·rw[h.h];simp
 ·rw[h.r hl];simp
theorem wd (t:St)(b m g:Nat)(l:List (List Int))(r:List Int)(hT:TabAt t b m g l)(hr:Sml r)(hn:l.length<1000000000) :
  SCalls Tryz.prog 51 [.ptr b 0,ca r] t fun w u=>∃g',w=.ret (.bool (!decide (r∈l)))/\TabAt u b m g' (og r l)/\Keep t u (gi b m g l)/\(∀x,gi b m g' (og r l) x->gi b m g l x\/t x=.free):=by
 by_cases hm:r∈l
 ·refine SCalls.mono (CR t b m g l r hT hr hm) ?_
  rintro w u ⟨rfl,rfl⟩
  refine⟨g,by simp[hm],by rw[og,if_pos hm];exact hT,Keep.refl _ _,fun x hx=>?_⟩
  rw[og,if_pos hm]at hx
  exact .inl hx
 ·refine SCalls.mono (CS t b m g l r hT hr hm hn) ?_
  rintro w u ⟨g',rfl,rfl,hg,hgb,hgm⟩
  have hbm:=hT.bm
  have hne:l++[r]≠[]:=by simp
  have hfree:l=[]\/g'=g\/t g'=.free:=by
   cases l with
   |nil=>exact .inl rfl
   |cons a l=>
    by_cases e:g'=g
    ·exact .inr (.inl e)
    ·simp only[ow]at hg
     rw[k_ _ _ e]at hg
     exact .inr (.inr hg)
  refine⟨g',by simp[hm],?_,?_,?_⟩
  ·rw[og,if_neg hm]
   refine⟨?_,?_,fun _=>?_,?_,?_⟩
   ·rw[q_]
    cases l<;>simp[eu]
   ·rw[k_ _ _ (Ne.symm hbm),k_ _ _ (Ne.symm hgm)]
    cases l with
    |nil=>exact q_ _ _ _
    |cons a l=>
     simp only[ow]
     have:m≠g:=by
      rintro rfl
      have h1:=hT.r (by simp)
      rw[hT.h]at h1
      cases h1
     rw[k_ _ _ this,q_]
   ·rw[k_ _ _ hgb,q_]
   ·intro x hx
    rcases l_.1 hx with hx|hx
    ·exact hT.s x hx
    ·rw[e_]at hx;subst hx;exact hr
   ·rw[d_];simp;omega
  ·intro x hx hF
   have n1:x≠b:=fun e=>hF (.inl e)
   have n2:x≠m:=fun e=>hF (.inr (.inl e))
   rw[k_ _ _ n1]
   cases l with
   |nil=>
    simp only[ow]at hg ⊢
    have n3:x≠g':=by rintro rfl;exact hx hg
    rw[k_ _ _ n3,k_ _ _ n2]
   |cons a l=>
    simp only[ow]at hg ⊢
    have n4:x≠g:=fun e=>hF (.inr (.inr ⟨by simp,e⟩))
    have n3:x≠g':=by
     rintro rfl
     rw[k_ _ _ n4]at hg
     exact hx hg
    rw[k_ _ _ n3,k_ _ _ n4,k_ _ _ n2]
  ·intro x hx
   rcases hx with rfl|rfl|⟨_,rfl⟩
   ·exact .inl (.inl rfl)
   ·exact .inl (.inr (.inl rfl))
   ·rcases hfree with h|h|h
    ·subst h;exact .inr hg
    ·by_cases hl:l=[]
     ·subst hl;exact .inr hg
     ·exact .inl (.inr (.inr ⟨hl,h⟩))
    ·exact .inr h
theorem lY {t:St}{o:Own}{T:TypeId}{sz n:Nat}(h:eB t o T sz n):(t.disown o).own o T sz n=t:=by
 cases o with
 |no=>rfl
 |full=>rfl
 |at_ b=>
  funext x
  simp only[eB]at h
  simp only[St.own,St.disown,St.set]
  by_cases hx:x=b
  ·subst hx;simp[h]
  ·simp[hx]
theorem jM {t:St}{o:Own}{T:TypeId}{sz n:Nat}(h:eB t o T sz n):OwnOk (t.disown o) o n:=by
 cases o with
 |no=>exact h
 |full=>exact h
 |at_ b=>simp[OwnOk,St.disown,St.set]
theorem rJ {s:St}{r b:Nat}{xs:List VV}{c:Cell}(h:¬ b=r):(s.set r (.obj 209 xs)).set b c=(s.set b c).set r (.obj 209 xs):=by
 funext x
 simp only[St.set]
 by_cases h1:x=b
 ·subst h1;simp[h]
 ·simp[h1]
def AdB (b:Nat)(ad:VV):Prop:=ad=.raw (.pointer none)\/ad=.ptr b 0
abbrev WbS (t:St)(b:Nat)(o:Own)(bs':List UInt8)(q:Own×VV):St:=Wb ((t.disown o).own q.1 5 1 bs'.length) b q.2 bs' q.1
def WbO (t:St)(b:Nat)(o:Own)(bs':List UInt8)(q:Own×VV):Prop:=OwnOk (t.disown o) q.1 bs'.length/\ay q.1 b/\AdB b q.2
theorem EQ (t:St)(b:Nat)(ad:VV)(bs:List UInt8)(o:Own)(x:List UInt8)(had:AdB b ad)(hO:eB t o 5 1 bs.length)(hn:ay o b)(hl:bs.length+x.length<=140737488355328) :
  SCalls Tryz.prog 133 [.ptr b 0,.str x] (Wb t b ad bs o) fun e u=>∃q:Own×VV,e=.ret (.tup [.int .i64 (x.length:Int),.raw .nilIface])/\u=WbS t b o (bs++x) q/\WbO t b o (bs++x) q:=by
 have:=CZ (t.disown o) b ad bs o x had (jM hO) hn hl
 rw[lY hO]at this
 refine this.mono ?_
 rintro e u ⟨o',h1,h2,h3,h4⟩
 exact⟨(o',.ptr b 0),h1,h2,h3,h4,.inr rfl⟩
theorem MS (t:St)(b:Nat)(ad:VV)(bs:List UInt8)(o:Own)(hO:eB t o 5 1 bs.length)(hn:ay o b)(hne:o=.full\/bs≠[]):SRet Tryz.prog 137 [.ptr b 0] (Wb t b ad bs o) (.str bs) (Wb t b ad bs o):=by
 have:=JN (t.disown o) b ad bs o (jM hO) hn hne
 rwa [lY hO]at this
def dmT (d:Dm):List UInt8:=[100,111,109,32]++d.name++[32]++Lib.itoa d.size++[46,10]
def vP (d:Dcl):List UInt8:=[114,101,108,32]++d.name++[40]++Lib.join d.doms [44,32]++[41,46,10]
def sH (x:Rul):List UInt8:=gB x.head++(if x.body=[] then [] else [32,58,45,32]++Lib.join (x.body.map gB) [44,32])++[46,10]
def Bc (x:Pgm):List UInt8:=(x.doms.map dmT).flatten++(x.decls.map vP).flatten++(x.rules.map sH).flatten
theorem d8 {t:List UInt8}(h:di t=true):t.length<=32:=by
 simp only[di,dP,Bool.and_eq_true,decide_eq_true_eq]at h
 have h2:=pZ t
 rw[h.2]at h2
 exact h2
theorem lk {t:Trm}(h:fN t=true):(jU t).length<=32/\-9223372036854775808<=t.n/\t.n<=9223372036854775807:=by
 unfold fN at h
 unfold jU
 split at h
 ·rename_i hv
  simp only[Bool.and_eq_true,decide_eq_true_eq]at h
  rw[if_pos hv,h.2]
  exact⟨d8 h.1,by omega,by omega⟩
 ·rename_i hv
  simp only[Bool.and_eq_true,decide_eq_true_eq]at h
  rw[if_neg hv]
  have:=Lib.itoa_length_le t.n (by omega) (by omega)
  exact⟨by omega,by omega,by omega⟩
theorem ni {α:Type}{f:α->List UInt8}{l:List α}{m k:Nat}(hl:l.length<=k)(h:∀x,x∈l->(f x).length<=m):(Lib.join (l.map f) [44,32]).length<=k*(m+2):=by
 have h1:=od m [44,32] (l.map f) (fun t ht=>by
  obtain⟨x,hx,rfl⟩:=E_.1 ht
  exact h x hx)
 rw[a_]at h1
 exact Nat.le_trans h1 (Nat.mul_le_mul_right _ hl)
theorem lO {a:Atm}(h:dh a=true):ES a/\(gB a).length<=400:=by
 simp only[dh,Bool.and_eq_true,decide_eq_true_eq,List.all_eq_true]at h
 obtain⟨⟨⟨h1,h2⟩,h3⟩,h4⟩:=h
 have h5:=d8 h2
 have h6:=ni (f:=jU) (m:=32) h4 (fun t ht=>(lk (h1 t ht)).1)
 refine⟨⟨by omega,by omega,fun t ht=>⟨by have:=(lk (h1 t ht)).1;omega,(lk (h1 t ht)).2⟩⟩,?_⟩
 unfold gB
 split<;>simp only[d_,List.length_cons,List.length_nil]<;>omega
theorem kX {d:Dm}(h:dmB d=true):(dmT d).length<=100/\0<=d.size/\d.size<=9999999999/\d.name.length<=32:=by
 simp only[dmB,Bool.and_eq_true,decide_eq_true_eq]at h
 obtain⟨⟨h1,h2⟩,h3⟩:=h
 have h5:=d8 h1
 have:=Lib.itoa_length_le d.size (by omega) (by omega)
 refine⟨?_,h2,h3,h5⟩
 simp only[dmT,d_,List.length_cons,List.length_nil]
 omega
theorem jB {d:Dcl}(h:eS d=true):(vP d).length<=400/\d.name.length<=32/\d.doms.length<=8/\(Lib.join d.doms [44,32]).length<=8*34:=by
 simp only[eS,Bool.and_eq_true,decide_eq_true_eq,List.all_eq_true]at h
 obtain⟨⟨⟨h1,h2⟩,h3⟩,h4⟩:=h
 have h5:=d8 h1
 have h6:=ni (f:=id) (m:=32) h3 (fun t ht=>d8 (h4 t ht))
 rw[List.map_id]at h6
 refine⟨?_,h5,h3,h6⟩
 simp only[vP,d_,List.length_cons,List.length_nil]
 omega
theorem ls {x:Rul}(h:dJ x=true):(sH x).length<=4000/\ES x.head/\(gB x.head).length<=400/\x.body.length<=8/\(∀a,a∈x.body->ES a)/\(Lib.join (x.body.map gB) [44,32]).length<=8*402:=by
 simp only[dJ,Bool.and_eq_true,decide_eq_true_eq,List.all_eq_true]at h
 obtain⟨⟨⟨⟨⟨h1,h2⟩,h3⟩,h4⟩,h5⟩,h6⟩:=h
 have h7:=lO h1
 have h8:=ni (f:=gB) (m:=400) h5 (fun t ht=>(lO (h6 t ht)).2)
 refine⟨?_,h7.1,h7.2,h5,fun a ha=>(lO (h6 a ha)).1,h8⟩
 unfold sH
 split<;>simp only[d_,List.length_cons,List.length_nil]<;>omega
theorem ip {α:Type}{f:α->List UInt8}{m:Nat}:∀{l:List α},(∀x,x∈l->(f x).length<=m)->(l.map f).flatten.length<=l.length*m
 |[],_=>by simp
 |x::l,h=>by
  have h1:=h x (by simp)
  have h2:=ip (l:=l) fun y hy=>h y (by simp[hy])
  simp only[List.map_cons,List.flatten_cons,d_,List.length_cons,Nat.succ_mul]
  omega
theorem mQ {α:Type}{f:α->List UInt8}{l:List α}{i:Nat}{x:α}(h:l[i]?=some x):((l.take (i+1)).map f).flatten=((l.take i).map f).flatten++f x:=by
 rw[bY h];simp
theorem vL:∀d:Nat,d<10->df (UInt8.ofNat (48+d))=true/\Lib.digitVal (UInt8.ofNat (48+d))=some d/\(UInt8.ofNat (48+d)=48->d=0):=by decide
theorem jd {u:Nat}(h:u<10):Lib.decDigits u=[UInt8.ofNat (48+u)]:=by rw[Lib.decDigits,dif_pos h]
theorem vM {u:Nat}(h:¬ u<10):Lib.decDigits u=Lib.decDigits (u / 10)++[UInt8.ofNat (48+u % 10)]:=by rw[Lib.decDigits,dif_neg h]
theorem vN (u:Nat):∀c,c∈Lib.decDigits u->df c=true:=by
 induction u using Nat.strongRecOn with
 |ind u ih=>
  intro c hc
  by_cases h:u<10
  ·rw[jd h,e_]at hc;subst hc;exact(vL u h).1
  ·rw[vM h,l_,e_]at hc
   rcases hc with hc|hc
   ·exact ih (u / 10) (by omega) c hc
   ·subst hc;exact(vL (u % 10) (by omega)).1
theorem xI (u:Nat):∃c t,Lib.decDigits u=c::t/\(c=48->t=[]):=by
 suffices H:∃c t,Lib.decDigits u=c::t/\(c=48->u=0) by
  obtain⟨c,t,h1,h2⟩:=H
  refine⟨c,t,h1,fun e=>?_⟩
  have:=h2 e
  subst this
  rw[jd (by omega)]at h1
  injection h1 with _ h1
  exact h1.symm
 induction u using Nat.strongRecOn with
 |ind u ih=>
  by_cases h:u<10
  ·exact⟨_,[],jd h,(vL u h).2.2⟩
  ·obtain⟨c,t,h1,h2⟩:=ih (u / 10) (by omega)
   exact⟨c,t++[UInt8.ofNat (48+u % 10)],by rw[vM h,h1];rfl,fun e=>by have:=h2 e;omega⟩
theorem BL:∀(k u:Nat),u<10 ^ (k+1)->(Lib.decDigits u).length<=k+1
 |0,u,h=>by rw[jd (by simpa using h)];simp
 |k+1,u,h=>by
  by_cases h1:u<10
  ·rw[jd h1];simp
  ·rw[vM h1,d_]
   have:=BL k (u / 10) (by rw[Nat.pow_succ]at h;omega)
   simp only[List.length_cons,List.length_nil];omega
theorem D0 (u:Nat):Lib.itoa (u:Int)=Lib.decDigits u:=by unfold Lib.itoa;rw[if_neg (by omega)];simp
theorem oC {c:UInt8}(h:df c=true):cu c=true:=by simp[cu,h]
theorem pJ:∀(t r:List UInt8),(∀c,c∈t->df c=true)->NP r->bI df (t++r)=t.length
 |[],r,_,hr=>by
  cases r with
  |nil=>rfl
  |cons c s=>
   rw[List.nil_append,b0]
   have:=hr c s rfl
   cases hd:df c with
   |false=>rfl
   |true=>rw[oC hd]at this;cases this
 |c::t,r,h,hr=>by
  rw[List.cons_append,b0,h c (by simp),if_pos rfl,pJ t r (fun x hx=>h x (by simp[hx])) hr]
  rfl
theorem xe {u:Nat}(hu:u<=9999999999){r:List UInt8}(hr:NP r):bF (Lib.decDigits u++r)=(2,(Lib.decDigits u).length):=by
 obtain⟨c,t,h1,h2⟩:=xI u
 have h3:=pJ (Lib.decDigits u) r (vN u) hr
 have h4:=BL 9 u (by omega)
 have h5:=vN u c (by rw[h1];simp)
 rw[h1]at h3 h4 ⊢
 rw[List.cons_append]at h3 ⊢
 simp only[bF,h5,if_true,h3]
 rw[if_neg]
 rintro(h|⟨h,e⟩)
 ·omega
 ·rw[h2 e]at h;simp at h
theorem LexN.num {n:Int}(h0:0<=n)(h1:n<=9999999999):LexN (Lib.itoa n) [Lib.itoa n]:=by
 obtain⟨u,rfl⟩:=Int.eq_ofNat_of_zero_le h0
 rw[show ((u:Nat):Int)=(u:Int) from rfl,D0]
 have hu:u<=9999999999:=by omega
 intro r a out L hr e
 obtain⟨c,t,g1,_⟩:=xI u
 refine xp (k:=2) (by rw[g1];simp) (fun c' s' e'=>?_) (xe hu hr) ?_ e
 ·exact nT (oC (vN u c' (by rw[e'];simp)))
 ·have:=xe hu NP.nil
  rwa [List.append_nil]at this
end Go.Proofs.YteldpmgepfaiiaaGreatDoor
