/- Walks of functions, and plain facts. Conditions: those in the statements. -/
import Derived.Test.YteldpmgepfaiiaaGreatDoorQsYlj
set_option linter.unusedSimpArgs false
set_option linter.unusedVariables false
set_option maxRecDepth 100000
namespace Go.Proofs.YteldpmgepfaiiaaGreatDoor
open Go.RowKit
def nts (l:List Nat):List VV:=cY (List.map (fun n:Nat=>(n:Int)) l)
theorem kI {l:List Nat}:(nts l).length=l.length:=by simp[nts,cY]
theorem re {l:List Nat}{i:Nat}(h:i<l.length):(nts l)[i]?=some (.int .i64 (gt l i:Int)):=by
 have:=mu h
 simp[nts,cY,this]
theorem DV {l:List Nat}{i v:Nat}(h:i<l.length):splice (nts l) i [.int .i64 (v:Int)]=nts (l.set i v):=by
 unfold nts
 rw[Bv (by simpa using h),List.map_set]
theorem rc {n:Nat}:List.replicate n (VV.int .i64 0)=nts (List.replicate n 0):=by simp[nts,cY]
def StQ (t:St)(r:Option (List Nat)):SEnd->St->Prop:=fun w u=>
 u=t/\match r with
 |some l=>w=.ret (.tup [.lst (aB (List.map (fun n:Nat=>(n:Int)) l)) .no,.bool true])
 |none=>w=.ret (.tup [.lst [] .no,.bool false])
theorem I6 {p:Pgm}(n:List UInt8):(lkA n (rlA p.decls)).getD 0=((ixR p n:Nat):Int):=by
 rw[j6]
 unfold ixR
 cases cO p.decls n<;>rfl
theorem Ey {E F:List Edg}{f:Nat->Nat}:Sol (E++F) f↔Sol E f/\Sol F f:=by
 unfold Sol
 constructor
 ·intro h;exact⟨fun e he=>h e (List.mem_append_left _ he),fun e he=>h e (List.mem_append_right _ he)⟩
 ·rintro⟨h,k⟩ e he
  rcases l_.1 he with a|a
  ·exact h e a
  ·exact k e a
structure Mid (E:List Edg) (n:Nat) (F:List Edg) (l0 l:List Nat) (ag:Bool):Prop where
 len:l.length=n
 un:fA E l
 lt:∀i,i<n->gt l i<n
 up:ag=true->l0.sum<l.sum
 no:ag=false->l=l0/\Sol F (gt l)
structure Inn (E:List Edg) (n h k:Nat) (F:List Edg) (l0 l:List Nat) (ag:Bool):Prop where
 len:l.length=n
 un:fA E l
 lt:∀i,i<n->i≠h->gt l i<n
 top:gt l h<n+k
 up:ag=true->l0.sum<l.sum
 no:ag=false->l=l0/\Sol F (gt l)
section
variable {E F : List Edg} {n h k : Nat} {l0 l : List Nat} {ag : Bool}
theorem Mid.inn (H:Mid E n F l0 l ag)(hh:h<n):Inn E n h 0 F l0 l ag:=⟨H.len,H.un,fun i hi _=>H.lt i hi,H.lt h hh,H.up,H.no⟩
theorem Inn.mid (H:Inn E n h k F l0 l ag)(hh:gt l h<n):Mid E n F l0 l ag:=⟨H.len,H.un,fun i hi=>if e:i=h then e ▸ hh else H.lt i hi e,H.up,H.no⟩
theorem Inn.le (H:Inn E n h k F l0 l ag):l0.sum<=l.sum:=by
 cases ag
 ·rw[(H.no rfl).1];exact Nat.le_refl _
 ·exact Nat.le_of_lt (H.up rfl)
theorem Inn.bd (H:Inn E n h k F l0 l ag){i:Nat}(hi:i<n):gt l i<n+k:=by
 by_cases e:i=h
 ·subst e;exact H.top
 ·have:=H.lt i hi e;omega
theorem Inn.keep (H:Inn E n h k F l0 l ag){e:Edg}(he:gt l e.b+e.w<=gt l e.h):Inn E n h (k+1) (F++[e]) l0 l ag:=
 ⟨H.len,H.un,H.lt,by have:=H.top;omega,H.up,fun x=>⟨(H.no x).1,Ey.2 ⟨(H.no x).2,fun e' he'=>by rw[e_]at he';subst he';exact he⟩⟩⟩
theorem Inn.put (H:Inn E n h k F l0 l ag){e:Edg}(hE:e∈E)(hh:e.h=h)(hl:h<n)(hb:e.b<n)(hw:e.w<=1)(he:gt l h<gt l e.b+e.w)(F':List Edg):Inn E n h (k+1) F' l0 (l.set h (gt l e.b+e.w)) true:=by
 subst hh
 have hlen:=H.len
 refine⟨by rw[List.length_set];exact hlen,yx H.un hE (by omega),fun i hi hne=>?_,?_,fun _=>?_,fun x=>by cases x⟩
 ·rw[i8 (by omega),if_neg hne];exact H.lt i hi hne
 ·rw[i8 (by omega),if_pos rfl]
  have:=H.bd hb
  omega
 ·have:=wA l e.h (gt l e.b+e.w) (by omega)
  have:=H.le
  omega
end
theorem xH {p:Pgm}{j:Nat}{r:Rul}(h:p.rules[j]?=some r):((p.rules.take (j+1)).map (gd p)).flatten=((p.rules.take j).map (gd p)).flatten++gd p r:=by rw[bY h,List.map_append,List.flatten_append];simp
theorem xG {p:Pgm}{r:Rul}{a:Atm}(h:r∈p.rules)(ha:a∈r.body):(⟨ixR p r.head.rel,ixR p a.rel,if a.not=true then 1 else 0⟩:Edg)∈eJ p:=by
 unfold eJ gd
 rw[List.mem_flatten]
 exact⟨_,E_.2 ⟨r,h,rfl⟩,E_.2 ⟨a,ha,rfl⟩⟩
theorem Bq {α β:Type}{f:α->β}{l:List α}{k:Nat}{a:α}(h:l[k]?=some a):(l.take (k+1)).map f=(l.take k).map f++[f a]:=by rw[bY h,List.map_append];rfl
theorem kH {l:List Nat}{i v:Nat}(h:i<l.length):List.take i (nts l)++[VV.int .i64 (v:Int)]++List.drop (i+1) (nts l)=nts (l.set i v):=DV h
theorem Wk.tup2 {xs:List (List VV)}{o:Own}{a:VV}:Wk (.tup [.lst xs o,a]) (.tup [.lst xs .no,a]):=
 Wk.tup rfl fun j x y hx hy=>by
  match j with
  |0=>simp only[List.getElem?_cons_zero,Option.some.injEq]at hx hy;subst hx hy;exact Wk.lst xs o
  |1=>simp only[List.getElem?_cons_succ,List.getElem?_cons_zero,Option.some.injEq]at hx hy;subst hx hy;exact Wk.refl _
  |j+2=>simp at hx
set_option maxHeartbeats 8000000 in
theorem qB (t:St)(p b1 b2:Nat)(x:Pgm)(hp:PrAt t p b1 b2 x)(hn:x.decls.length<=100000)(hr:x.rules.length<=100000)(hb:∀r,r∈x.rules->r.body.length<=1000)
  (hD:∀r,r∈x.rules->ixR x r.head.rel<x.decls.length/\∀a,a∈r.body->ixR x a.rel<x.decls.length) :
  SCalls Tryz.prog 86 [.ptr p 0] t (StQ t (stgP x)):=by
 obtain⟨hp0,h10,h20⟩:=hp
 have hpf:t p≠.free:=by rw[hp0];simp
 have h2f:t b2≠.free:=by rw[h20];simp
 have hdl:(x.decls.map az).length=x.decls.length:=by simp
 have hbb:=u_ hb
 clear hb
 refine aw Tryz.func86 rfl Tryz.ntmps86 rfl fun Q hQ hQe=>?_
 (repeat'(first|refine Ctl ?_|((with_reducible refine j_ hK ?_);clear hK hE K E)|((first|(with_reducible first|refine ae fun K E hK hE=>?_|refine mB ?_)|((with_reducible refine ao (fun b hb=>?_));(try(obtain⟨_,_⟩:=nef hb hpf;obtain⟨_,_⟩:=nef hb h2f))))<;>(try simp(disch:=omega) only[go_sem,seval, *]))))
 obtain⟨bo,hbo⟩:∃z,z=b:=⟨_,rfl⟩
 subst hbo
 generalize hnn:x.decls.length=n at *
 rw[rc]
 have hrl:(x.rules.map ax).length=x.rules.length:=by simp
 have hlk:∀q:List UInt8,(lkA q (rlA x.decls)).getD 0=((ixR x q:Nat):Int):=fun q=>I6 q
 have HSTG:Hid (stgP x=stg n (eJ x)):=u_ (by unfold stgP;rw[hnn])
 have hFO:Fg (t.set bo (.obj 3 (nts (List.replicate n 0)))) t:=v_ _ hb
 refine ef (fun m env s'=>∃(l:List Nat) (ag:Bool),(l.length=n/\fA (eJ x) l/\(∀i,i<n->gt l i<n)/\(ag=false->Sol (eJ x) (gt l))/\m=2*(n*n - l.sum)+(if ag=true then 1 else 0))/\s'=t.set bo (.obj 3 (nts l)) /\
  env 0=.ptr p 0/\env 4=.msl bo n/\env 5=.bool ag) (2*(n*n - (List.replicate n 0).sum)+1) ?_ ?_
 ·refine⟨_,GS.refl _,List.replicate n 0,true,⟨by simp,nh _ _,fun i hi=>?_,fun h=>(by cases h),rfl⟩,rfl,ab,ab,ab⟩
  unfold gt
  rw[List.getElem?_replicate]
  split
  ·exact(by omega:(0:Nat)<n)
  ·exact(by omega:(0:Nat)<n)
 ·rintro m env s' ⟨l0,ag,⟨hlen,hun,hlt,hsol,hm⟩,rfl,e0,e4,e5⟩
  have HUN:=u_ hun
  have HLT:=u_ hlt
  have HSOL:=u_ hsol
  have HM:=u_ hm
  clear hun hlt hsol hm
  cases ag
  ·have hLe:gU n (eJ x) l0:=⟨hlen,HSOL.out rfl,HUN.out,HLT.out⟩
   have hst:stgP x=some l0:=by rw[HSTG.out];exact iP hLe
   have HST:=u_ hst
   clear hst hLe HSOL HUN HLT HM
   refine wj 4 bo n (q_ _ _ _) e4 (by rw[kI];exact hlen) ?_
   rw[St.set_set,x_ _ _ _ hb]
   (repeat'(first|refine Ctl ?_|((with_reducible refine j_ hK ?_);clear hK hE K E)|((with_reducible refine aj (fun h=>?_) (fun h=>?_))<;>(try(exfalso;assumption)))|(((with_reducible refine ae fun K E hK hE=>?_))<;>(try simp(disch:=omega) only[go_sem,seval, *]))))
   all_goals(refine ap Av hQ ?_)
   rw[HST.out]
   exact⟨_,t,Wk.refl _,Fg.refl _,rfl,by unfold nts;rw[kP]⟩
  ·clear HSOL
   (repeat'(first|refine Ctl ?_|((with_reducible refine j_ hK ?_);clear hK hE K E)|((with_reducible refine aj (fun h=>?_) (fun h=>?_))<;>(try(exfalso;assumption)))|(((with_reducible refine ae fun K E hK hE=>?_))<;>(try simp(disch:=omega) only[go_sem,seval, *]))))
   refine ef (fun m' env s'=>∃(j:Nat) (l:List Nat) (ag:Bool),j<=x.rules.length/\m'+j=x.rules.length/\Hid (Mid (eJ x) n ((x.rules.take j).map (gd x)).flatten l0 l ag)/\s'=t.set bo (.obj 3 (nts l)) /\
    env 0=.ptr p 0/\env 4=.msl bo n/\env 5=.bool ag/\env 24=.lst (x.rules.map ax) .no/\env 25=.int .i64 x.rules.length/\env 26=.int .i64 j) x.rules.length ?_ ?_
   ·exact⟨_,GS.refl _,0,l0,false,by omega,by omega,u_ ⟨hlen,HUN.out,HLT.out,fun h=>(by cases h),fun _=>⟨rfl,fun e he=>by simp at he⟩⟩,rfl,ab,ab,ab,ab,ab,ab⟩
   ·clear e0 e4 e5
    rintro m' env s' ⟨j,l,ag,hj,hm',HMD,rfl,e0,e4,e5,e24,e25,e26⟩
    have hll:=HMD.out.len
    by_cases hlt:j<x.rules.length
    ·obtain⟨r,hrj⟩:=aN hlt
     have hmem:=p_ hrj
     have hbl:=hbb.out r hmem
     obtain⟨hdh,hda⟩:=hD r hmem
     have hsx:=fc hrj
     have HRJ:=u_ hrj
     have HME:=u_ hmem
     have HDA:=u_ hda
     clear hrj hmem hda
     (repeat'(first|refine Ctl ?_|(with_reducible first|(refine j_ hK ?_;clear hK hE K E)|(refine j_ hKh ?_;clear hKh Kh)|refine aq 8 [] [0,1,2,3,4,5,6,7,8] hQe fun K E hK hE=>?_)|((with_reducible refine aj (fun h=>?_) (fun h=>?_))<;>(try(exfalso;assumption)))|((first|(with_reducible first|refine ae fun K E hK hE=>?_|refine aD fun Kh hKh=>?_)|((with_reducible refine ao (fun b hb=>?_));(repeat(obtain⟨_,hb⟩:=hb));(try(obtain⟨_,_⟩:=nef hb hpf;obtain⟨_,_⟩:=nef hb h2f))))<;>(try simp(disch:=omega) only[go_sem,seval,ax, *]))))
     obtain⟨br,hbr⟩:∃z,z=b:=⟨_,rfl⟩
     subst hbr
     have hbl2:(r.body.map aG).length=r.body.length:=by simp
     rw[show (t.set bo (.obj 3 (nts l))).set br (.obj 43 [.bool r.head.not,.str r.head.rel,.lst (r.head.ts.map aC) .no,.lst (r.body.map aG) .no])=(t.set br (.obj 43 [.bool r.head.not,.str r.head.rel,.lst (r.head.ts.map aC) .no,.lst (r.body.map aG) .no])).set bo (.obj 3 (nts l)) from cJ (‹_›)]
     have hCr:(t.set br (.obj 43 [.bool r.head.not,.str r.head.rel,.lst (r.head.ts.map aC) .no,.lst (r.body.map aG) .no])) br≠.free:=by rw[q_];simp
     have hCp:(t.set br (.obj 43 [.bool r.head.not,.str r.head.rel,.lst (r.head.ts.map aC) .no,.lst (r.body.map aG) .no])) p=.obj 183 [.lst (x.doms.map dmC) .no,.lst (x.decls.map az) .no,.lst (x.rules.map ax) .no,.mp b1,.mp b2]:=by rw[k_ _ _ (‹_›)];exact hp0
     have hC2:(t.set br (.obj 43 [.bool r.head.not,.str r.head.rel,.lst (r.head.ts.map aC) .no,.lst (r.body.map aG) .no])) b2=.map (mpV bL (rlA x.decls)):=by rw[k_ _ _ (‹_›)];exact h20
     have hFC:Fg (t.set br (.obj 43 [.bool r.head.not,.str r.head.rel,.lst (r.head.ts.map aC) .no,.lst (r.body.map aG) .no])) t:=v_ _ (‹_›)
     have hCo:(t.set br (.obj 43 [.bool r.head.not,.str r.head.rel,.lst (r.head.ts.map aC) .no,.lst (r.body.map aG) .no])) bo=.free:=by rw[k_ _ _ (‹_›)];assumption
     generalize t.set br (.obj 43 [.bool r.head.not,.str r.head.rel,.lst (r.head.ts.map aC) .no,.lst (r.body.map aG) .no])=C at *
     have HFC:=u_ hFC
     clear hFC
     have hCpf:C p≠.free:=by rw[hCp];simp
     have hC2f:C b2≠.free:=by rw[hC2];simp
     generalize hh:ixR x r.head.rel=hd at *
     refine ef (fun m'' env s'=>∃(k:Nat) (l:List Nat) (ag:Bool),k<=r.body.length/\m''+k=r.body.length/\Hid (Inn (eJ x) n hd k (((x.rules.take j).map (gd x)).flatten++((r.body.take k).map fun a=>(⟨hd,ixR x a.rel,if a.not=true then 1 else 0⟩:Edg))) l0 l ag)/\s'=C.set bo (.obj 3 (nts l)) /\
      env 0=.ptr p 0/\env 4=.msl bo n/\env 5=.bool ag/\env 24=.lst (x.rules.map ax) .no/\env 25=.int .i64 x.rules.length/\env 26=.int .i64 j/\env 8=.int .i64 hd/\env 39=.lst (r.body.map aG) .no/\env 40=.int .i64 r.body.length/\env 41=.int .i64 k) r.body.length ?_ ?_
     ·exact⟨_,GS.refl _,0,l,ag,by omega,by omega,u_ (by simpa using HMD.out.inn hdh),rfl,ab,ab,ab,ab,ab,ab,ab,ab,ab,ab⟩
     ·clear e0 e4 e5 e24 e25 e26 hll
      rintro m'' env s' ⟨k,l,ag,hk,hm'',HIN,rfl,e0,e4,e5,e24,e25,e26,e8,e39,e40,e41⟩
      have hll:=HIN.out.len
      have hnl:(nts l).length=n:=by rw[kI];exact hll
      have hth:=HIN.out.top
      have hah:=re (l:=l) (i:=hd) (by omega)
      by_cases hlk2:k<r.body.length
      ·obtain⟨c,hc⟩:=aN hlk2
       have hcm:=p_ hc
       have hsy:=cX hc
       have hci:=HDA.out c hcm
       have HC:=u_ hc
       have hac:=re (l:=l) (i:=ixR x c.rel) (by omega)
       have hcb:=HIN.out.bd hci
       obtain⟨cn,cr,cts⟩:=c
       simp only at hci hac hcb
       generalize hv:gt l (ixR x cr)=v at *
       generalize hu:gt l hd=u at *
       have HV:=u_ hv
       have HU:=u_ hu
       clear hv hu hc
       cases cn
       ·by_cases hgt:u<v
        ·(repeat'(first|refine Ctl ?_|(with_reducible first|(refine j_ hK ?_;clear hK hE K E)|(refine j_ hKh ?_;clear hKh Kh)|refine aq 12 [] [0,1,2,3,4,5,6,7,8,9,10] hQe fun K E hK hE=>?_)|((with_reducible refine aj (fun h=>?_) (fun h=>?_))<;>(try(exfalso;assumption)))|((first|(with_reducible first|refine ae fun K E hK hE=>?_|refine gh ?_|refine gT ?_|refine aD fun Kh hKh=>?_)|((with_reducible refine ao (fun b hb=>?_));(repeat(obtain⟨_,hb⟩:=hb));(try(obtain⟨_,_⟩:=nef hb hCpf;obtain⟨_,_⟩:=nef hb hC2f;obtain⟨_,_⟩:=nef hb hCr))))<;>(try simp(disch:=first|assumption|omega) only[go_sem,seval,aG, *]))))
         have hI:=HIN.out.put (e:=⟨hd,ixR x cr,0⟩) (by have:=xG HME.out hcm;rw[hh]at this;exact this) rfl hdh hci (by simp) (by show gt l hd<gt l (ixR x cr)+0;rw[HU.out,show gt l (ixR x cr)=v from HV.out];omega) (((x.rules.take j).map (gd x)).flatten++((r.body.take (k+1)).map fun a=>(⟨hd,ixR x a.rel,if a.not=true then 1 else 0⟩:Edg)))
         rw[show gt l (ixR x cr)=v from HV.out]at hI
         rw[kH (by omega)]
         exact⟨C.set bo (.obj 3 (nts (l.set hd (v)))),GS.of_fg (v_ _ (by rw[k_ _ _ (‹_›)];assumption)),m'' - 1,by omega,k+1,l.set hd (v),true,by omega,by omega,u_ hI,rfl,ab,ab,ab,ab,ab,ab,ab,ab,ab,ab⟩
        ·(repeat'(first|refine Ctl ?_|(with_reducible first|(refine j_ hK ?_;clear hK hE K E)|(refine j_ hKh ?_;clear hKh Kh)|refine aq 12 [] [0,1,2,3,4,5,6,7,8,9,10] hQe fun K E hK hE=>?_)|((with_reducible refine aj (fun h=>?_) (fun h=>?_))<;>(try(exfalso;assumption)))|((first|(with_reducible first|refine ae fun K E hK hE=>?_|refine gh ?_|refine aD fun Kh hKh=>?_)|((with_reducible refine ao (fun b hb=>?_));(repeat(obtain⟨_,hb⟩:=hb));(try(obtain⟨_,_⟩:=nef hb hCpf;obtain⟨_,_⟩:=nef hb hC2f;obtain⟨_,_⟩:=nef hb hCr))))<;>(try simp(disch:=omega) only[go_sem,seval,aG, *]))))
         have hI:=HIN.out.keep (e:=⟨hd,ixR x cr,0⟩) (by show gt l (ixR x cr)+0<=gt l hd;rw[show gt l (ixR x cr)=v from HV.out,HU.out];omega)
         refine⟨C.set bo (.obj 3 (nts l)),GS.of_fg (v_ _ (by rw[k_ _ _ (‹_›)];assumption)),m'' - 1,by omega,k+1,l,ag,by omega,by omega,u_ ?_,rfl,ab,ab,ab,ab,ab,ab,ab,ab,ab,ab⟩
         rw[Bq HC.out,<- List.append_assoc]
         exact hI
       ·by_cases hgt:u<v+1
        ·(repeat'(first|refine Ctl ?_|(with_reducible first|(refine j_ hK ?_;clear hK hE K E)|(refine j_ hKh ?_;clear hKh Kh)|refine aq 12 [] [0,1,2,3,4,5,6,7,8,9,10] hQe fun K E hK hE=>?_)|((with_reducible refine aj (fun h=>?_) (fun h=>?_))<;>(try(exfalso;assumption)))|((first|(with_reducible first|refine ae fun K E hK hE=>?_|refine gh ?_|refine gT ?_|refine aD fun Kh hKh=>?_)|((with_reducible refine ao (fun b hb=>?_));(repeat(obtain⟨_,hb⟩:=hb));(try(obtain⟨_,_⟩:=nef hb hCpf;obtain⟨_,_⟩:=nef hb hC2f;obtain⟨_,_⟩:=nef hb hCr))))<;>(try simp(disch:=first|assumption|omega) only[go_sem,seval,aG, *]))))
         have hI:=HIN.out.put (e:=⟨hd,ixR x cr,1⟩) (by have:=xG HME.out hcm;rw[hh]at this;exact this) rfl hdh hci (by simp) (by show gt l hd<gt l (ixR x cr)+1;rw[HU.out,show gt l (ixR x cr)=v from HV.out];omega) (((x.rules.take j).map (gd x)).flatten++((r.body.take (k+1)).map fun a=>(⟨hd,ixR x a.rel,if a.not=true then 1 else 0⟩:Edg)))
         rw[show gt l (ixR x cr)=v from HV.out]at hI
         rw[kH (by omega)]
         exact⟨C.set bo (.obj 3 (nts (l.set hd (v+1)))),GS.of_fg (v_ _ (by rw[k_ _ _ (‹_›)];assumption)),m'' - 1,by omega,k+1,l.set hd (v+1),true,by omega,by omega,u_ hI,rfl,ab,ab,ab,ab,ab,ab,ab,ab,ab,ab⟩
        ·(repeat'(first|refine Ctl ?_|(with_reducible first|(refine j_ hK ?_;clear hK hE K E)|(refine j_ hKh ?_;clear hKh Kh)|refine aq 12 [] [0,1,2,3,4,5,6,7,8,9,10] hQe fun K E hK hE=>?_)|((with_reducible refine aj (fun h=>?_) (fun h=>?_))<;>(try(exfalso;assumption)))|((first|(with_reducible first|refine ae fun K E hK hE=>?_|refine gh ?_|refine aD fun Kh hKh=>?_)|((with_reducible refine ao (fun b hb=>?_));(repeat(obtain⟨_,hb⟩:=hb));(try(obtain⟨_,_⟩:=nef hb hCpf;obtain⟨_,_⟩:=nef hb hC2f;obtain⟨_,_⟩:=nef hb hCr))))<;>(try simp(disch:=omega) only[go_sem,seval,aG, *]))))
         have hI:=HIN.out.keep (e:=⟨hd,ixR x cr,1⟩) (by show gt l (ixR x cr)+1<=gt l hd;rw[show gt l (ixR x cr)=v from HV.out,HU.out];omega)
         refine⟨C.set bo (.obj 3 (nts l)),GS.of_fg (v_ _ (by rw[k_ _ _ (‹_›)];assumption)),m'' - 1,by omega,k+1,l,ag,by omega,by omega,u_ ?_,rfl,ab,ab,ab,ab,ab,ab,ab,ab,ab,ab⟩
         rw[Bq HC.out,<- List.append_assoc]
         exact hI
      ·have hke:k=r.body.length:=by omega
       by_cases htop:gt l hd<n
       ·(repeat'(first|refine Ctl ?_|((with_reducible refine j_ hK ?_);clear hK hE K E)|((with_reducible refine aj (fun h=>?_) (fun h=>?_))<;>(try(exfalso;omega)))|(((with_reducible first|refine ae fun K E hK hE=>?_|refine gh ?_))<;>(try simp(disch:=omega) only[go_sem,seval, *]))))
        refine⟨t.set bo (.obj 3 (nts l)),GS.of_fg (Fg.set HFC.out _ _),m' - 1,by omega,j+1,l,ag,by omega,by omega,u_ ?_,rfl,ab,ab,ab,ab,ab,ab⟩
        have hI:=HIN.out.mid htop
        rw[hke,f_]at hI
        rw[xH HRJ.out]
        unfold gd at hI ⊢
        rw[hh]
        exact hI
       ·have hst:stgP x=none:=by rw[HSTG.out];exact sm (lZ HIN.out.un hdh (by omega))
        have HST:=u_ hst
        clear hst
        (repeat'(first|refine Ctl ?_|((with_reducible refine j_ hK ?_);clear hK hE K E)|((with_reducible refine aj (fun h=>?_) (fun h=>?_))<;>(try(exfalso;omega)))|(((with_reducible first|refine ae fun K E hK hE=>?_|refine gh ?_))<;>(try simp(disch:=omega) only[go_sem,seval, *]))))
        all_goals(refine ap Av hQ ?_)
        rw[HST.out]
        exact⟨_,t,Wk.tup2,(v_ _ hCo).trans HFC.out,rfl,rfl⟩
    ·(repeat'(first|refine Ctl ?_|((with_reducible refine j_ hK ?_);clear hK hE K E)|((with_reducible refine aj (fun h=>?_) (fun h=>?_))<;>(try(exfalso;assumption)))|(((with_reducible refine ae fun K E hK hE=>?_))<;>(try simp(disch:=omega) only[go_sem,seval, *]))))
     have HH:=HMD.out
     rw[show j=x.rules.length by omega,f_]at HH
     have hE:eJ x=((x.rules).map (gd x)).flatten:=rfl
     rw[<- hE]at HH
     have hs1:=Ad (m:=n) l HH.len (fun i hi=>Nat.le_of_lt (HH.lt i hi))
     have hm:=HM.out
     refine⟨_,GS.refl _,2*(n*n - l.sum)+(if ag=true then 1 else 0),?_,l,ag,⟨HH.len,HH.un,HH.lt,fun h=>(HH.no h).2,rfl⟩,rfl,ab,ab,ab⟩
     rw[hm]
     cases ag
     ·rw[(HH.no rfl).1];simp
     ·have:=HH.up rfl
      simp only[if_true]
      omega
theorem iW {k:IntKind}{a b:Int}:eC false (.int k a) (.int k b)=some (.int k (if b<a then b else a)):=by
 simp only[eC,if_true,Bool.false_eq_true,if_false]
set_option maxHeartbeats 2000000 in
theorem Cw (a:Atm)(o0:Own)(ha:a.ts.length<=140737488355328)(s:St):SCalls Tryz.prog 23 [.agg [.bool a.not,.str a.rel,.lst (a.ts.map aC) o0]] s fun w u=>∃r:Int,w=.ret (.int .i64 r)/\u=s/\True:=by
 obtain⟨an,ar,ats⟩:=a
 simp only at ha ⊢
 refine aw Tryz.func23 rfl Tryz.ntmps23 rfl fun Q hQ hQe=>?_
 (repeat'(first|refine Ctl ?_|((with_reducible refine j_ hK ?_);clear hK hE K E)|((with_reducible refine aj (fun h=>?_) (fun h=>?_)))|((first|(with_reducible refine ae fun K E hK hE=>?_)|((with_reducible refine ao (fun b hb=>?_))))<;>(try simp(disch:=omega) only[go_sem,seval,a_,iW, *]))))
 ·(refine ap AM hQ ?_)
  exact⟨_,_,Wk.refl _,bC,_,rfl,rfl,trivial⟩
 all_goals
  obtain⟨bx,hbx⟩:∃z,z=b:=⟨_,rfl⟩
  subst hbx
  refine aI (fun m env s'=>∃(i:Nat) (n:Int),i<=ats.length/\m+i=ats.length/\s'=s.set bx (.obj 40 [.bool an,.str ar,.lst (ats.map aC) o0]) /\
   env 1=.ptr bx 0/\env 3=.int .i64 n/\env 4=.int .i64 i) ats.length ⟨_,Fg.refl _,0,_,by omega,by omega,rfl,ab,jH,ab⟩ ?_
  rintro m env s' ⟨i,n,hi,hm,rfl,e1,e3,e4⟩
  by_cases hlt:i<ats.length
  ·obtain⟨x,hx⟩:=aN hlt
   have hsx:=dl hx
   clear hx
   obtain⟨xv,xn,xk⟩:=x
   (repeat'(first|refine Ctl ?_|((with_reducible refine j_ hK ?_);clear hK hE K E)|((with_reducible refine aj (fun h=>?_) (fun h=>?_))<;>(try(exfalso;assumption)))|(((with_reducible refine ae fun K E hK hE=>?_))<;>(try simp(disch:=omega) only[go_sem,seval,a_,aC,iW, *]))))
   all_goals exact⟨_,bC,m - 1,by omega,i+1,_,by omega,by omega,rfl,ab,jH,ab⟩
  ·(repeat'(first|refine Ctl ?_|((with_reducible refine j_ hK ?_);clear hK hE K E)|((with_reducible refine aj (fun h=>?_) (fun h=>?_))<;>(try(exfalso;assumption)))|(((with_reducible refine ae fun K E hK hE=>?_))<;>(try simp(disch:=omega) only[go_sem,seval,a_, *]))))
   all_goals(refine ap AM hQ ?_)
   all_goals exact⟨_,_,Wk.refl _,bC,_,rfl,rfl,trivial⟩
def wm (a:Pgm):Prop:=a.doms.length<=40/\a.decls.length<=40/\a.rules.length<=80/\(∀d,d∈a.decls->d.doms.length<=10)/\∀r,r∈a.rules->r.body.length<=10
set_option maxHeartbeats 4000000 in
theorem rK (a:Pgm)(ha:PgmOk a)(s:St):SCalls Tryz.prog 9 [.agg (pgC a)] s fun w u=>∃r:Bool,w=.ret (.bool r)/\u=s/\(r=true->wm a):=by
  obtain⟨ad,ac,ar⟩:=a
  obtain⟨hd,hc,hr,_,hdc,hrr⟩:=ha
  simp only at hd hc hr hdc hrr
  refine aw Tryz.func9 rfl Tryz.ntmps9 rfl fun Q hQ hQe=>?_
  (repeat'(first|refine Ctl ?_|((with_reducible refine j_ hK ?_);clear hK hE K E)|((with_reducible refine aj (fun h=>?_) (fun h=>?_))<;>(try(exfalso;assumption)))|((first|(with_reducible refine ae fun K E hK hE=>?_)|((with_reducible refine ao (fun b hb=>?_)))|((with_reducible refine dy (fun h=>?_) (fun h=>?_))))<;>(try simp(disch:=omega) only[go_sem,seval,pgC,a_, *]))))
  all_goals first
    | ((first | refine ap sO hQ ?_ | refine en sO hQ ?_ | refine jm hQ ?_)
       exact⟨_,_,Wk.refl _,bC,_,rfl,rfl,(fun h=>by cases h)⟩)
    |skip
  obtain⟨b2,hbx⟩:∃z,z=b:=⟨_,rfl⟩
  subst hbx
  have HB:=u_ (show ad.length<=40/\ac.length<=40/\ar.length<=80 by omega)
  have h2:(s.set b2 (.obj 26 [.lst (ad.map dmC) .no,.lst (ac.map az) .no,.lst (ar.map ax) .no])) b2=.obj 26 [.lst (ad.map dmC) .no,.lst (ac.map az) .no,.lst (ar.map ax) .no]:=q_ _ _ _
  have hF:Fg (s.set b2 (.obj 26 [.lst (ad.map dmC) .no,.lst (ac.map az) .no,.lst (ar.map ax) .no])) s:=bC
  generalize (s.set b2 (.obj 26 [.lst (ad.map dmC) .no,.lst (ac.map az) .no,.lst (ar.map ax) .no]))=S at *
  have HF:=u_ hF
  clear hF hb
  refine aI (fun m env s'=>∃(i:Nat) (n:Int),i<=ad.length/\m+i=ad.length/\s'=S/\env 1=.ptr b2 0/\env 3=.int .i64 n/\env 4=.int .i64 i) ad.length ⟨_,Fg.refl _,0,_,by omega,by omega,rfl,ab,jH,ab⟩ ?_
  rintro m env s' ⟨i,n,hi,hm,rfl,e1,e3,e4⟩
  by_cases hlt:i<ad.length
  · obtain⟨x,hx⟩:=aN hlt
    have hsx:=ge hx
    clear hx
    obtain⟨xn,xk⟩:=x
    (repeat'(first|refine Ctl ?_|((with_reducible refine j_ hK ?_);clear hK hE K E)|((with_reducible refine aj (fun h=>?_) (fun h=>?_))<;>(try(exfalso;assumption)))|(((with_reducible refine ae fun K E hK hE=>?_))<;>(try simp(disch:=omega) only[go_sem,seval,a_,dmC,iW, *]))))
    all_goals exact⟨_,bC,m - 1,by omega,i+1,_,by omega,by omega,rfl,ab,jH,ab⟩
  · (repeat'(first|refine Ctl ?_|((with_reducible refine j_ hK ?_);clear hK hE K E)|((with_reducible refine aj (fun h=>?_) (fun h=>?_))<;>(try(exfalso;assumption)))|(((with_reducible refine ae fun K E hK hE=>?_))<;>(try simp(disch:=omega) only[go_sem,seval,a_, *]))))
    clear e4 hlt hi hm h
    refine aI (fun m env s''=>∃(i:Nat) (n:Int),i<=ac.length/\m+i=ac.length/\Hid (∀d,d∈ac.take i->d.doms.length<=10)/\s''=s'/\env 1=.ptr b2 0/\env 3=.int .i64 n/\env 5=.int .i64 i) ac.length ⟨_,Fg.refl _,0,_,by omega,by omega,u_ (fun d hd=>by simp at hd),rfl,ab,jH,ab⟩ ?_
    clear e1 e3 env i m n
    rintro m env S ⟨i,n,hi,hm,HD,rfl,e1,e3,e5⟩
    by_cases hlt:i<ac.length
    · obtain⟨x,hx⟩:=aN hlt
      have hsx:=dp hx
      have hxo:=(hdc x (p_ hx)).2.1
      have HX:=u_ hx
      clear hx
      obtain⟨xn,xs⟩:=x
      simp only at hxo
      have hlx:(aA xs).length=xs.length:=by simp[aA]
      (repeat'(first|refine Ctl ?_|((with_reducible refine j_ hK ?_);clear hK hE K E)|((with_reducible refine aj (fun h=>?_) (fun h=>?_))<;>(try(exfalso;assumption)))|(((with_reducible refine ae fun K E hK hE=>?_))<;>(try simp(disch:=omega) only[go_sem,seval,a_,az,iW, *]))))
      all_goals first
        | ((first | refine ap sO hQ ?_ | refine en sO hQ ?_ | refine jm hQ ?_)
           exact⟨_,_,Wk.refl _,HF.out,_,rfl,rfl,(fun h=>by cases h)⟩)
        |skip
      all_goals
        have HD2:Hid (∀d,d∈ac.take (i+1)->d.doms.length<=10):=u_ (by
          intro d hd
          rw[bY HX.out]at hd
          rcases l_.1 hd with h1|h1
          · exact HD.out d h1
          · rw[e_]at h1;subst h1;show xs.length<=10;omega)
        refine aI (fun m env s''=>∃(j:Nat) (n:Int),j<=xs.length/\m+j=xs.length/\s''=S/\env 1=.ptr b2 0/\env 3=.int .i64 n/\env 5=.int .i64 i/\env 6=.int .i64 j) xs.length ⟨_,Fg.refl _,0,_,by omega,by omega,rfl,ab,jH,ab,ab⟩ ?_
        clear e1 e3 e5 env n
        rintro m2 env S2 ⟨j,n,hj,hm2,rfl,e1,e3,e5,e6⟩
        by_cases hlt2:j<xs.length
        · obtain⟨t,ht⟩:=aN hlt2
          have htx:=dm ht
          clear ht
          (repeat'(first|refine Ctl ?_|((with_reducible refine j_ hK ?_);clear hK hE K E)|((with_reducible refine aj (fun h=>?_) (fun h=>?_))<;>(try(exfalso;assumption)))|(((with_reducible refine ae fun K E hK hE=>?_))<;>(try simp(disch:=omega) only[go_sem,seval,az,iW, *]))))
          all_goals exact⟨_,Fg.refl _,m2 - 1,by omega,j+1,_,by omega,by omega,rfl,ab,jH,ab,ab⟩
        · (repeat'(first|refine Ctl ?_|((with_reducible refine j_ hK ?_);clear hK hE K E)|((with_reducible refine aj (fun h=>?_) (fun h=>?_))<;>(try(exfalso;assumption)))|(((with_reducible refine ae fun K E hK hE=>?_))<;>(try simp(disch:=omega) only[go_sem,seval,az, *]))))
          all_goals exact⟨_,Fg.refl _,m - 1,by omega,i+1,_,by omega,by omega,HD2,rfl,ab,jH,ab⟩
    · (repeat'(first|refine Ctl ?_|((with_reducible refine j_ hK ?_);clear hK hE K E)|((with_reducible refine aj (fun h=>?_) (fun h=>?_))<;>(try(exfalso;assumption)))|(((with_reducible refine ae fun K E hK hE=>?_))<;>(try simp(disch:=omega) only[go_sem,seval,a_, *]))))
      have HD3:Hid (∀d,d∈ac->d.doms.length<=10):=u_ (by
        have:=HD.out
        rw[B_ (by omega)]at this
        exact this)
      clear e5 hlt hi hm h HD
      refine aI (fun m env s''=>∃(i:Nat) (n:Int),i<=ar.length/\m+i=ar.length/\Hid (∀d,d∈ar.take i->d.body.length<=10)/\s''=S/\env 1=.ptr b2 0/\env 3=.int .i64 n/\env 7=.int .i64 i) ar.length ⟨_,Fg.refl _,0,_,by omega,by omega,u_ (fun d hd=>by simp at hd),rfl,ab,jH,ab⟩ ?_
      clear e1 e3 env i m n
      rintro m env s' ⟨i,n,hi,hm,HD,rfl,e1,e3,e7⟩
      by_cases hlt:i<ar.length
      · obtain⟨x,hx⟩:=aN hlt
        have hsx:=fc hx
        obtain⟨⟨_,hxh,_⟩,hxl,hxb⟩:=hrr x (p_ hx)
        have HX:=u_ hx
        clear hx
        obtain⟨⟨xv,xn,xk⟩,xb⟩:=x
        simp only at hxl hxb hxh
        have w1:=fun s=>Cw ⟨xv,xn,xk⟩ .no hxh s
        simp only at w1
        (repeat'(first|refine Ctl ?_|((with_reducible refine j_ hK ?_);clear hK hE K E)|((with_reducible refine aj (fun h=>?_) (fun h=>?_))<;>(try(exfalso;assumption)))|((first|(with_reducible refine ae fun K E hK hE=>?_)|((with_reducible refine aO Ft (w1 _) (fun a h=>?_))))<;>(try simp(disch:=omega) only[go_sem,seval,a_,ax, *]))))
        all_goals first
          | ((first | refine ap sO hQ ?_ | refine en sO hQ ?_ | refine jm hQ ?_)
             exact⟨_,_,Wk.refl _,HF.out,_,rfl,rfl,(fun h=>by cases h)⟩)
          |skip
        all_goals
          have HD2:Hid (∀d,d∈ar.take (i+1)->d.body.length<=10):=u_ (by
            intro d hd
            rw[bY HX.out]at hd
            rcases l_.1 hd with h1|h1
            · exact HD.out d h1
            · rw[e_]at h1;subst h1;show xb.length<=10;omega)
          refine aI (fun m env s''=>∃(j:Nat) (n:Int),j<=xb.length/\m+j=xb.length/\s''=s'/\env 1=.ptr b2 0/\env 3=.int .i64 n/\env 7=.int .i64 i/\env 8=.int .i64 j) xb.length ⟨_,Fg.refl _,0,_,by omega,by omega,rfl,ab,jH,ab,ab⟩ ?_
          clear e1 e3 e7 env n w1
          rintro m2 env S2 ⟨j,n,hj,hm2,rfl,e1,e3,e7,e8⟩
          by_cases hlt2:j<xb.length
          · obtain⟨t,ht⟩:=aN hlt2
            have htx:=cX ht
            have hto:=(hxb t (p_ ht)).2.1
            clear ht
            obtain⟨tv,tn,tk⟩:=t
            have w1:=fun s=>Cw ⟨tv,tn,tk⟩ .no hto s
            simp only at w1
            (repeat'(first|refine Ctl ?_|((with_reducible refine j_ hK ?_);clear hK hE K E)|((with_reducible refine aj (fun h=>?_) (fun h=>?_))<;>(try(exfalso;assumption)))|((first|(with_reducible refine ae fun K E hK hE=>?_)|((with_reducible refine aO Ft (w1 _) (fun a h=>?_))))<;>(try simp(disch:=omega) only[go_sem,seval,a_,ax,aG, *]))))
            all_goals exact⟨_,Fg.refl _,m2 - 1,by omega,j+1,_,by omega,by omega,rfl,ab,jH,ab,ab⟩
          · (repeat'(first|refine Ctl ?_|((with_reducible refine j_ hK ?_);clear hK hE K E)|((with_reducible refine aj (fun h=>?_) (fun h=>?_))<;>(try(exfalso;assumption)))|(((with_reducible refine ae fun K E hK hE=>?_))<;>(try simp(disch:=omega) only[go_sem,seval,a_,ax, *]))))
            all_goals exact⟨_,Fg.refl _,m - 1,by omega,i+1,_,by omega,by omega,HD2,rfl,ab,jH,ab⟩
      · (repeat'(first|refine Ctl ?_|((with_reducible refine j_ hK ?_);clear hK hE K E)|((with_reducible refine aj (fun h=>?_) (fun h=>?_))<;>(try(exfalso;assumption)))|(((with_reducible refine ae fun K E hK hE=>?_))<;>(try simp(disch:=omega) only[go_sem,seval,a_, *]))))
        all_goals(refine ap sO hQ ?_)
        all_goals exact⟨_,_,Wk.refl _,HF.out,_,rfl,rfl,fun _=>⟨HB.out.1,HB.out.2.1,HB.out.2.2,HD3.out,by
          have:=HD.out
          rw[B_ (by omega)]at this
          exact this⟩⟩
theorem SCalls.wk {P:Program}{f:FuncId}{xs ys:List VV}{s:St}{Q:SEnd->St->Prop}(h:SCalls P f ys s Q)(hl:xs.length=ys.length)(hw:∀(j:Nat) (x y:VV),xs[j]?=some x->ys[j]?=some y->Wk x y):SCalls P f xs s Q:=
 fun w0 G w vs hS hr=>h w0 G w vs hS ⟨hr.1.trans hl,fun j v y hv hy=>by
  have hj:j<xs.length:=by rw[hl];exact(n_.1 hy).1
  exact hw j xs[j] y (b_ hj) hy G v (hr.2 j v xs[j] hv (b_ hj))⟩
theorem Mr {d:Dm}(h:dmB d=true):EP d:=by
 have:=kX h
 exact⟨by omega,by omega,by omega⟩
theorem Jo {d:Dcl}(h:eS d=true):yk d:=by
 have h1:=jB h
 simp only[eS,Bool.and_eq_true,decide_eq_true_eq,List.all_eq_true]at h
 exact⟨by omega,by omega,fun t ht=>by have:=d8 (h.2 t ht);omega⟩
theorem Cp {a:Atm}(h:dh a=true):pf a:=by
 simp only[dh,Bool.and_eq_true,decide_eq_true_eq,List.all_eq_true]at h
 obtain⟨⟨⟨h1,h2⟩,h3⟩,h4⟩:=h
 have h5:=d8 h2
 refine⟨by omega,by omega,fun t ht=>?_⟩
 have h6:=h1 t ht
 unfold fN at h6
 split at h6
 ·simp only[Bool.and_eq_true,decide_eq_true_eq]at h6
  have:=d8 h6.1
  exact⟨by omega,by omega,by omega⟩
 ·simp only[Bool.and_eq_true,decide_eq_true_eq]at h6
  rw[h6.1.1]
  exact⟨by simp,by omega,by omega⟩
theorem H7 {x:Pgm}(h:cm x=true):PgmOk x:=by
 obtain⟨l1,l2,l3,h1,h2,h3⟩:=mN h
 refine⟨by omega,by omega,by omega,fun d hd=>Mr (h1 d hd),fun d hd=>Jo (h2 d hd),fun y hy=>?_⟩
 have h4:=h3 y hy
 simp only[dJ,Bool.and_eq_true,decide_eq_true_eq,List.all_eq_true]at h4
 obtain⟨⟨⟨⟨⟨g1,g2⟩,g3⟩,g4⟩,g5⟩,g6⟩:=h4
 exact⟨Cp g1,by omega,fun a ha=>Cp (g6 a ha)⟩
theorem dL {x:Pgm}(h:cp x=0):cm x=true:=by
 unfold cp at h
 cases hB:cm x with
 |true=>rfl
 |false=>rw[if_pos hB]at h;cases h
theorem Co {a:Atm}(h:dh a=true):a.ts.length<=8:=by
 unfold dh at h
 simp only[Bool.and_eq_true,decide_eq_true_eq]at h
 grind
theorem ij {x:Pgm}(h:cm x=true):x.decls.length<=32/\x.rules.length<=64/\∀r,r∈x.rules->r.head.ts.length<=8/\r.body.length<=8/\∀a,a∈r.body->a.ts.length<=8:=by
 simp only[cm,Bool.and_eq_true,decide_eq_true_eq,List.all_eq_true]at h
 obtain⟨⟨⟨⟨⟨_,h2⟩,h3⟩,_⟩,_⟩,h6⟩:=h
 refine⟨h2,h3,fun r hr=>?_⟩
 have:=h6 r hr
 simp only[dJ,Bool.and_eq_true,decide_eq_true_eq,List.all_eq_true]at this
 obtain⟨⟨⟨⟨⟨g1,_⟩,_⟩,_⟩,g5⟩,g6⟩:=this
 exact⟨Co g1,g5,fun a ha=>Co (g6 a ha)⟩
theorem qw {p:Pgm}{X Y:Scp}{a:Atm}(h:bU p X a=.ok Y):ixR p a.rel<p.decls.length:=by
 unfold bU at h
 unfold ixR
 cases hk:cO p.decls a.rel with
 |none=>rw[hk]at h;cases h
 |some k=>
  rw[hk]at h
  simp only[Option.getD_some]
  cases hd:p.decls[k]? with
  |none=>simp only[hd]at h;cases h
  |some d=>exact(n_.1 hd).1
theorem oJ {p:Pgm}:∀(l:List Atm) {X Y:Scp},cL p X l=.ok Y->∀a,a∈l->ixR p a.rel<p.decls.length
 |[],_,_,_,a,ha=>by cases ha
 |b::l,X,Y,h,a,ha=>by
  simp only[cL]at h
  cases hb:bU p X b with
  |error e=>rw[hb]at h;cases h
  |ok Z=>
   rw[hb,dX]at h
   rcases F_.1 ha with rfl|ha
   ·exact qw hb
   ·exact oJ l h a ha
theorem j0 {p:Pgm}{r:Rul}{Y:Scp}(h:bJ p r=.ok Y):ixR p r.head.rel<p.decls.length/\∀a,a∈r.body->ixR p a.rel<p.decls.length:=by
 unfold bJ at h
 cases h1:bU p ⟨[],[]⟩ r.head with
 |error e=>rw[h1]at h;cases h
 |ok X=>
  rw[h1,dX]at h
  cases h2:cL p X r.body with
  |error e=>rw[h2]at h;cases h
  |ok Z=>exact⟨qw h1,oJ _ h2⟩
theorem j5 {p:Pgm}{r:Rul}{e:Int}(h:bJ p r=.error e):e≠0:=by
 have hts:∀(l:List Atm) (X:Scp) (e:Int),cL p X l=.error e->e≠0:=by
  intro l
  induction l with
  |nil=>intro X e h;simp only[cL]at h;cases h
  |cons a l ih=>
   intro X e h
   simp only[cL]at h
   cases h1:bU p X a with
   |error e'=>rw[h1]at h;injection h with h;subst h;exact fL h1
   |ok Z=>rw[h1,dX]at h;exact ih _ _ h
 unfold bJ at h
 cases h1:bU p ⟨[],[]⟩ r.head with
 |error e'=>rw[h1]at h;injection h with h;subst h;exact fL h1
 |ok X=>
  rw[h1,dX]at h
  cases h2:cL p X r.body with
  |error e'=>rw[h2]at h;injection h with h;subst h;exact hts _ _ _ h2
  |ok Z=>
   rw[h2,dX]at h
   split at h
   ·injection h with h;subst h;decide
   ·split at h
    ·injection h with h;subst h;decide
    ·cases h
theorem fo {p:Pgm}:∀(l:List Rul) (k:Nat),em p k l=none->∀r,r∈l->∃Y,bJ p r=.ok Y
 |[],_,_,r,hr=>by cases hr
 |a::l,k,h,r,hr=>by
  simp only[em]at h
  cases ha:bJ p a with
  |error e=>rw[ha]at h;cases h
  |ok Y=>
   rw[ha]at h
   rcases F_.1 hr with rfl|hr
   ·exact⟨Y,ha⟩
   ·exact fo l (k+1) h r hr
section
variable (x : Pgm) (hx : PgmOk x) (s : St)
theorem CB (hx:PgmOk x)(h:cp x≠0):SRet Tryz.prog 85 [.agg (pgC x)] s (.tup [.raw (.pointer none),.int .i64 (cp x)]) s:=
 (xV x hx s).mono fun w u hq=>hq.1 h
theorem CA (hx:PgmOk x)(h:cp x=0)(b:Nat)(c:Cell)(hc:c≠.free):SCalls Tryz.prog 85 [.agg (pgC x)] (s.set b c) fun w u=>∃q:Nat×Nat×Nat×St,w=.ret (.tup [.ptr q.1 0,.int .i64 0])/\u=q.2.2.2/\(PrAt q.2.2.2 q.1 q.2.1 q.2.2.1 x/\Fg q.2.2.2 (s.set b c)/\q.2.2.2 b=c):=
 (xV x hx _).mono fun w u hq=>by
  obtain⟨p,b1,b2,h1,h2,h3⟩:=hq.2 h
  exact⟨(p,b1,b2,u),h1,rfl,h2,h3,(h3.keep (by rw[q_];exact hc)).trans (q_ _ _ _)⟩
end
section
variable (t : St) (p b1 b2 : Nat) (x : Pgm) (r : Rul) (hp : PrAt t p b1 b2 x) (hb : r.head.ts.length <= 8 /\ r.body.length <= 8 /\ ∀ a, a ∈ r.body -> a.ts.length <= 8)
include hp hb
theorem zF (e:Int)(h:bJ x r=.error e):SRet Tryz.prog 78 [.ptr p 0,.agg [.bool r.head.not,.str r.head.rel,.lst (r.head.ts.map aC) .no,.lst (r.body.map aG) .no]] t (.tup [.raw (.pointer none),.int .i64 e]) t:=by
 have:=oY t p b1 b2 x r hp (by omega) (by omega) (fun a ha=>Nat.le_trans (hb.2.2 a ha) (by omega))
 rw[h]at this
 exact this
theorem zE (Y:Scp)(h:bJ x r=.ok Y):SCalls Tryz.prog 78 [.ptr p 0,.agg [.bool r.head.not,.str r.head.rel,.lst (r.head.ts.map aC) .no,.lst (r.body.map aG) .no]] t fun w u=>∃q:Nat×St,w=.ret (.tup [.ptr q.1 0,.int .i64 0])/\u=q.2/\Fg q.2 t:=by
 have:=oY t p b1 b2 x r hp (by omega) (by omega) (fun a ha=>Nat.le_trans (hb.2.2 a ha) (by omega))
 rw[h]at this
 exact this.mono fun w u hq=>by
  obtain⟨xb,bm,h1,h2,_⟩:=hq
  exact⟨(xb,u),h1,rfl,h2⟩
end
section
variable (t : St) (p b1 b2 : Nat) (x : Pgm) (hp : PrAt t p b1 b2 x) (hn : x.decls.length <= 32) (hr : x.rules.length <= 64) (hb : ∀ r, r ∈ x.rules -> r.head.ts.length <= 8 /\ r.body.length <= 8 /\ ∀ a, a ∈ r.body -> a.ts.length <= 8) (hD : em x 0 x.rules = none)
include hp hn hr hb hD
theorem vZ (h:stgP x=none):SRet Tryz.prog 86 [.ptr p 0] t (.tup [.lst [] .no,.bool false]) t:=by
 have:=qB t p b1 b2 x hp (by omega) (by omega) (fun r hr=>Nat.le_trans (hb r hr).2.1 (by omega)) (fun r hr=>by obtain⟨Y,hY⟩:=fo _ _ hD r hr;exact j0 hY)
 rw[h]at this
 exact this.mono fun w u hq=>⟨hq.2,hq.1⟩
theorem vY (l:List Nat)(h:stgP x=some l):SRet Tryz.prog 86 [.ptr p 0] t (.tup [.lst (aB (List.map (fun n:Nat=>(n:Int)) l)) .no,.bool true]) t:=by
 have:=qB t p b1 b2 x hp (by omega) (by omega) (fun r hr=>Nat.le_trans (hb r hr).2.1 (by omega)) (fun r hr=>by obtain⟨Y,hY⟩:=fo _ _ hD r hr;exact j0 hY)
 rw[h]at this
 exact this.mono fun w u hq=>⟨hq.2,hq.1⟩
end
theorem z_ {xs ys:List VV}(h:WkL xs ys):Wk (.tup xs) (.tup ys):=
 Wk.tup h.len fun j x y hx hy=>by
  obtain⟨x',h1,h2,_⟩:=h.get j y hy
  rw[hx]at h1
  injection h1 with h1
  subst h1
  exact h2
set_option maxHeartbeats 8000000 in
theorem xY (x:Pgm)(hx:PgmOk x)(t:St) :
  SCalls Tryz.prog 57 [.agg (pgC x)] t fun w u=>∃P:VV,w=.ret (.tup [P,.lst (aB (List.map (fun n:Nat=>(n:Int)) (soundP x).2.2)) .no,.int .i64 (soundP x).1,.int .i64 (soundP x).2.1])/\Fg u t/\((soundP x).2.1=0->∃p b1 b2,P=.ptr p 0/\PrAt u p b1 b2 x):=by
 by_cases hr:cp x=0
 ·have hBd:=ij (dL hr)
  obtain⟨hdl,hrl,hbd⟩:=hBd
  have hs:soundP x=match em x 0 x.rules with|some (k,e)=>((k:Int),e,[])|none=>match stgP x with|none=>(-1,126,[])|some l=>(-1,0,l):=by
   unfold soundP;rw[if_neg (by simp[hr])];rfl
  generalize hZ:soundP x=Z at hs
  have HS:=u_ hs
  clear hs hZ
  have HBD:=u_ hbd
  have w1:=fun s b c hc=>CA x s hx hr b c hc
  clear hr hbd
  simp only[pgC]at w1 ⊢
  have hlen:(x.rules.map ax).length=x.rules.length:=by simp
  refine aw Tryz.func57 rfl Tryz.ntmps57 rfl fun Q hQ hQe=>?_
  (repeat'(first|refine Ctl ?_|((with_reducible refine j_ hK ?_);clear hK hE K E)|((with_reducible refine aj (fun h=>?_) (fun h=>?_))<;>(try(exfalso;assumption)))|((first|(with_reducible refine ae fun K E hK hE=>?_)|((with_reducible refine aO Fi (w1 _ _ _ (by simp)) (fun a h=>?_)))|((with_reducible refine ao (fun b hb=>?_))))<;>(try simp(disch:=omega) only[go_sem,seval, *]))))
  rename_i hq
  obtain⟨p,b1,b2,S⟩:=a
  simp only at hq ⊢
  obtain⟨hP,hF,hSb⟩:=hq
  have hF2:Fg S t:=hF.trans (v_ _ hb)
  have HP:=u_ hP
  have HF:=u_ hF2
  have hSbf:S b≠.free:=by rw[hSb];simp
  clear hP hF hF2 hb w1
  refine ef (fun m env s'=>∃i:Nat,i<=x.rules.length/\m+i=x.rules.length/\Hid (em x 0 x.rules=em x i (x.rules.drop i))/\s'=S /\
   env 6=.ptr p 0/\env 23=.lst (x.rules.map ax) .no/\env 24=.int .i64 x.rules.length/\env 25=.int .i64 i) x.rules.length ?_ ?_
  ·exact⟨_,GS.refl _,0,by omega,by omega,u_ (by simp),rfl,ab,ab,ab,ab⟩
  ·rintro m env s' ⟨i,hi,hm,HI,rfl,e6,e23,e24,e25⟩
   by_cases hlt:i<x.rules.length
   ·obtain⟨r,hrj⟩:=aN hlt
    have hmem:=p_ hrj
    have hbl:=HBD.out r hmem
    have hsx:=fc hrj
    have hI:=HI.out
    rw[g_ hlt,show x.rules[i]=r by rw[b_ hlt]at hrj;injection hrj]at hI
    simp only[em]at hI
    have HBL:=u_ hbl
    clear hrj hmem hbl
    cases hsc:bJ x r with
    |error e=>
     rw[hsc]at hI
     simp only at hI
     have hen:=j5 hsc
     have hZ:Z=((i:Int),e,[]):=by rw[HS.out,hI]
     have HZ:=u_ hZ
     have HSC:=u_ hsc
     clear hI hZ hsc HI
     (repeat'(first|refine Ctl ?_|((with_reducible refine j_ hK ?_);clear hK hE K E)|((with_reducible refine aj (fun h=>?_) (fun h=>?_))<;>(try(exfalso;assumption)))|((first|(with_reducible first|refine ae fun K E hK hE=>?_|refine ak BS (zF _ p b1 b2 x r (HP.out.fg (v_ _ (‹_›))) HBL.out e HSC.out) ?_)|((with_reducible refine ao (fun b hb=>?_));(try(obtain⟨_,_⟩:=nef hb hSbf))))<;>(try simp(disch:=omega) only[go_sem,seval,ax, *]))))
     all_goals(refine ap sT hQ ?_)
     rw[HZ.out]
     exact⟨_,t,z_ (by(repeat(first|exact WkL.nil|apply WkL.same|apply WkL.lst))),(v_ _ (‹_›)).trans HF.out,.raw (.pointer none),rfl,Fg.refl _,fun h=>absurd h hen⟩
    |ok Y=>
     rw[hsc]at hI
     simp only at hI
     have HI2:=u_ hI
     have HSC:=u_ hsc
     clear hI hsc HI
     (repeat'(first|refine Ctl ?_|((with_reducible refine j_ hK ?_);clear hK hE K E)|((with_reducible refine aj (fun h=>?_) (fun h=>?_))<;>(try(exfalso;assumption)))|((first|(with_reducible refine ae fun K E hK hE=>?_)|((with_reducible refine aO BS (zE _ p b1 b2 x r (HP.out.fg (v_ _ (‹_›))) HBL.out Y HSC.out) (fun a h=>?_)))|((with_reducible refine ao (fun b hb=>?_));(try(obtain⟨_,_⟩:=nef hb hSbf))))<;>(try simp(disch:=omega) only[go_sem,seval,ax, *]))))
     rename_i hq
     exact⟨s',GS.of_fg (hq.trans (v_ _ hb)),m - 1,by omega,i+1,by omega,by omega,HI2,rfl,ab,ab,ab,ab⟩
   ·have hie:i=x.rules.length:=by omega
    have hI:=HI.out
    rw[hie,G_]at hI
    simp only[em]at hI
    have HB:=u_ hI
    have hZ:=HS.out
    rw[hI]at hZ
    simp only at hZ
    clear hI HS HI
    cases hst:stgP x with
    |none=>
     rw[hst]at hZ
     have HZ:=u_ hZ
     have HST:=u_ hst
     clear hZ hst
     (repeat'(first|refine Ctl ?_|((with_reducible refine j_ hK ?_);clear hK hE K E)|((with_reducible refine aj (fun h=>?_) (fun h=>?_))<;>(try(exfalso;first|assumption|omega)))|(((with_reducible first|refine ae fun K E hK hE=>?_|refine ak Fh (vZ _ p b1 b2 x HP.out hdl hrl HBD.out HB.out HST.out) ?_))<;>(try simp(disch:=omega) only[go_sem,seval, *]))))
     all_goals(refine ap sT hQ ?_)
     rw[HZ.out]
     exact⟨_,t,z_ (by(repeat(first|exact WkL.nil|apply WkL.same|apply WkL.lst))),HF.out,.raw (.pointer none),rfl,Fg.refl _,fun h=>absurd h (by decide)⟩
    |some l=>
     rw[hst]at hZ
     have HZ:=u_ hZ
     have HST:=u_ hst
     clear hZ hst
     (repeat'(first|refine Ctl ?_|((with_reducible refine j_ hK ?_);clear hK hE K E)|((with_reducible refine aj (fun h=>?_) (fun h=>?_))<;>(try(exfalso;first|assumption|omega)))|(((with_reducible first|refine ae fun K E hK hE=>?_|refine ak Fh (vY _ p b1 b2 x HP.out hdl hrl HBD.out HB.out l HST.out) ?_))<;>(try simp(disch:=omega) only[go_sem,seval, *]))))
     all_goals(refine ap sT hQ ?_)
     rw[HZ.out]
     exact⟨_,s',Wk.refl _,Fg.refl _,.ptr p 0,rfl,HF.out,fun _=>⟨p,b1,b2,rfl,HP.out⟩⟩
 ·have hs:soundP x=(-1,cp x,[]):=by unfold soundP;rw[if_pos hr]
  rw[hs]
  have w1:=fun s=>CB x s hx hr
  have HRN:=u_ hr
  clear hs
  generalize cp x=e at *
  simp only[pgC]at w1 ⊢
  refine aw Tryz.func57 rfl Tryz.ntmps57 rfl fun Q hQ hQe=>?_
  (repeat'(first|refine Ctl ?_|((with_reducible refine j_ hK ?_);clear hK hE K E)|((with_reducible refine aj (fun h=>?_) (fun h=>?_))<;>(try(exfalso;assumption)))|((first|(with_reducible first|refine ae fun K E hK hE=>?_|refine ak Fi (w1 _) ?_)|((with_reducible refine ao (fun b hb=>?_))))<;>(try simp(disch:=omega) only[go_sem,seval, *]))))
  all_goals(refine ap sT hQ ?_)
  exact⟨_,t,z_ (by(repeat(first|exact WkL.nil|apply WkL.same|apply WkL.lst))),v_ _ hb,.raw (.pointer none),rfl,Fg.refl _,fun h=>absurd h HRN.out⟩
theorem CG (x:Pgm)(hx:PgmOk x)(t:St) :
  SCalls Tryz.prog 57 [.agg (pgC x)] t fun w u=>∃P:VV,w=.ret (.tup [P,.lst (aB (List.map (fun n:Nat=>(n:Int)) (soundP x).2.2)) .no,.int .i64 (soundP x).1,.int .i64 (soundP x).2.1])/\u=t/\True:=
 SCalls.gs ((xY x hx t).mono fun w u ⟨P,h1,h2,_⟩=>⟨t,GS.of_fg h2,P,h1,rfl,trivial⟩)
set_option maxHeartbeats 2000000 in
theorem JD (x:Pgm)(hx:PgmOk x)(t:St):SRet Tryz.prog 25 [.agg (pgC x)] t (.tup [.lst (aB (List.map (fun n:Nat=>(n:Int)) (soundP x).2.2)) .no,.int .i64 (soundP x).2.1]) t:=by
 have w1:=fun s=>CG x hx s
 generalize soundP x=Z at *
 simp only[pgC]at w1 ⊢
 refine aw Tryz.func25 rfl Tryz.ntmps25 rfl fun Q hQ hQe=>?_
 (repeat'(first|refine Ctl ?_|((with_reducible refine j_ hK ?_);clear hK hE K E)|((first|(with_reducible refine ae fun K E hK hE=>?_)|((with_reducible refine aO tU (w1 _) (fun a h=>?_)))|((with_reducible refine ao (fun b hb=>?_))))<;>(try simp(disch:=omega) only[go_sem,seval, *]))))
 all_goals(refine ap E7 hQ ?_)
 all_goals(refine⟨_,_,Wk.of_eq ?_,?_,rfl,rfl⟩)
 all_goals(exact bC)
theorem zJ (t:List UInt8):zK 1 t=di t:=by
 rw[Bool.eq_iff_iff]
 simp only[zK,di,dP,decide_eq_true_eq,Bool.and_eq_true]
 constructor
 ·rintro⟨h1,h2,h3⟩;exact⟨h1,h3⟩
 ·rintro⟨h1,h3⟩
  exact⟨h1,d8 (by simp only[di,dP,decide_eq_true_eq,Bool.and_eq_true];exact⟨h1,h3⟩),h3⟩
theorem li (t:List UInt8)(s:St):SRet Tryz.prog 129 [.str t] s (.bool (di t)) s:=by
 have h1:=fun s=>MM 1 t 0 s
 rw[zJ]at h1
 refine aw Tryz.func129 rfl Tryz.ntmps129 rfl fun Q hQ hQe=>?_
 (repeat'(first|refine Ctl ?_|((with_reducible refine j_ hK ?_);clear hK hE K E)|(((with_reducible first|refine ae fun K E hK hE=>?_|refine ak Jx (h1 _) ?_))<;>(try simp(disch:=omega) only[go_sem,seval, *]))))
 all_goals(refine ap AX hQ ?_)
 all_goals(refine⟨_,_,Wk.of_eq ?_,?_,rfl,rfl⟩)
 all_goals first|rfl|(exact bC)
theorem yd (n:Int)(s:St):SRet Tryz.prog 130 [.int .i64 n] s (.bool (decide (0<=n) && decide (n<=9999999999))) s:=by
 refine aw Tryz.func130 rfl Tryz.ntmps130 rfl fun Q hQ hQe=>?_
 (repeat'(first|refine Ctl ?_|((with_reducible refine j_ hK ?_);clear hK hE K E)|((first|(with_reducible refine ae fun K E hK hE=>?_)|((with_reducible refine dy (fun h=>?_) (fun h=>?_))))<;>(try simp(disch:=omega) only[go_sem,seval, *]))))
 all_goals(refine ap AW hQ ?_)
 all_goals(refine⟨_,_,Wk.of_eq ?_,?_,rfl,rfl⟩)
 all_goals first|(exact bC)|(simp only[VV.bool.injEq];grind)
set_option maxHeartbeats 4000000 in
theorem qE (a:Atm)(o0:Own)(ha:pf a)(s:St):SRet Tryz.prog 131 [.agg [.bool a.not,.str a.rel,.lst (a.ts.map aC) o0]] s (.bool (dh a)) s:=by
  obtain⟨h1,h2,h3⟩:=ha
  refine aw Tryz.func131 rfl Tryz.ntmps131 rfl fun Q hQ hQe=>?_
  (repeat'(first|refine Ctl ?_|((with_reducible refine j_ hK ?_);clear hK hE K E)|((first|(with_reducible refine ae fun K E hK hE=>?_)|((with_reducible refine ao (fun b hb=>?_))))<;>(try simp(disch:=omega) only[go_sem,seval, *]))))
  obtain⟨nt,rel,ts⟩:=a
  simp only at h1 h2 h3 ⊢
  have hb0:s.set b (.obj 40 [.bool nt,.str rel,.lst (ts.map aC) o0]) b=.obj 40 [.bool nt,.str rel,.lst (ts.map aC) o0]:=q_ _ _ _
  have hF0:Fg (s.set b (.obj 40 [.bool nt,.str rel,.lst (ts.map aC) o0])) s:=v_ _ hb
  generalize s.set b (.obj 40 [.bool nt,.str rel,.lst (ts.map aC) o0])=B at *
  have hbf:B b≠.free:=by rw[hb0];simp
  have HF:=u_ hF0
  clear hF0 hb
  refine aI (fun m env s'=>∃i:Nat,i<=ts.length/\m+i=ts.length/\s'=B/\(ts.take i).all fN=true/\env 1=.ptr b 0/\env 3=.int .i64 i) ts.length ?_ ?_
  · exact⟨B,Fg.refl _,0,by omega,by omega,rfl,rfl,ab,ab⟩
  · rintro m env s' ⟨i,hi,hm,rfl,hall,e1,e3⟩
    by_cases hlt:i<ts.length/\i<=8
    · obtain⟨hlt,hl8⟩:=hlt
      obtain⟨c,hc⟩:=aN hlt
      obtain⟨hc1,hc2,hc3⟩:=h3 c (p_ hc)
      have hsx:=dl hc
      have HX:=u_ hc
      have HH:=u_ hall
      clear hc hall
      obtain⟨cv,cn,cz⟩:=c
      simp only at hc1 hc2 hc3
      have w1:=fun s=>li cn s
      have w2:=fun s=>yd cz s
      cases cv
      · by_cases hn:cn=[]
        · cases hz:(decide (0<=cz) && decide (cz<=9999999999))
          all_goals
            rw[hz]at w2
            clear w1
            (repeat'(first|refine Ctl ?_|((with_reducible refine j_ hK ?_);clear hK hE K E)|((with_reducible refine aj (fun h=>?_) (fun h=>?_))<;>(try(exfalso;first|assumption|omega)))|((first|(with_reducible first|refine ae fun K E hK hE=>?_|refine ak Cb (w2 _) ?_)|((with_reducible refine ao (fun b hb=>?_))))<;>(try simp(disch:=omega) only[go_sem,seval,a_,aC, *]))))
          all_goals first
            | (have hres : dh ⟨nt, rel, ts⟩ = false := by unfold dh; rw [bO HX.out (by simp [fN, hn] at hz ⊢; grind)]; simp
               (refine ap ly hQ ?_)
               (refine⟨_,_,Wk.of_eq ?_,?_,rfl,rfl⟩)
               · rw[hres]
               · exact(v_ _ hb).trans HF)
            |exact⟨s',v_ _ hb,m - 1,by omega,i+1,by omega,by omega,rfl,bE HH.out HX.out (by simp[fN,hn]at hz ⊢;grind),ab,ab⟩
        · clear w1
          (repeat'(first|refine Ctl ?_|((with_reducible refine j_ hK ?_);clear hK hE K E)|((with_reducible refine aj (fun h=>?_) (fun h=>?_))<;>(try(exfalso;first|assumption|omega)))|((first|(with_reducible refine ae fun K E hK hE=>?_)|((with_reducible refine ao (fun b hb=>?_))))<;>(try simp(disch:=omega) only[go_sem,seval,a_,aC, *]))))
          have hres:dh ⟨nt,rel,ts⟩=false:=by unfold dh;rw[bO HX.out (by simp[fN,hn])];simp
          (refine ap ly hQ ?_)
          (refine⟨_,_,Wk.of_eq ?_,?_,rfl,rfl⟩)
          · rw[hres]
          · exact(v_ _ hb).trans HF
      · cases hz:di cn
        all_goals
          rw[hz]at w1
          clear w2
          (repeat'(first|refine Ctl ?_|((with_reducible refine j_ hK ?_);clear hK hE K E)|((with_reducible refine aj (fun h=>?_) (fun h=>?_))<;>(try(exfalso;first|assumption|omega)))|((first|(with_reducible first|refine ae fun K E hK hE=>?_|refine ak lK (w1 _) ?_)|((with_reducible refine ao (fun b hb=>?_)))|((with_reducible refine dy (fun h=>?_) (fun h=>?_))))<;>(try simp(disch:=omega) only[go_sem,seval,a_,aC, *]))))
        all_goals first
          | (have hres : dh ⟨nt, rel, ts⟩ = false := by unfold dh; rw [bO HX.out (by simp [fN, hz]; try grind)]; simp
             (refine ap ly hQ ?_)
             (refine⟨_,_,Wk.of_eq ?_,?_,rfl,rfl⟩)
             · rw[hres]
             · exact(v_ _ hb).trans HF)
          |exact⟨s',v_ _ hb,m - 1,by omega,i+1,by omega,by omega,rfl,bE HH.out HX.out (by simp[fN,hz];grind),ab,ab⟩
    · have w1:=fun s=>li rel s
      by_cases hiL:i=ts.length
      · subst hiL
        rw[f_]at hall
        have HA:=u_ hall
        clear hall hlt
        cases hz:di rel
        all_goals
          rw[hz]at w1
          (repeat'(first|refine Ctl ?_|((with_reducible refine j_ hK ?_);clear hK hE K E)|((with_reducible refine aj (fun h=>?_) (fun h=>?_))<;>(try(exfalso;assumption)))|((first|(with_reducible first|refine ae fun K E hK hE=>?_|refine ak lK (w1 _) ?_)|((with_reducible refine dy (fun h=>?_) (fun h=>?_))<;>(try(exfalso;omega))))<;>(try simp(disch:=omega) only[go_sem,seval,a_, *]))))
        all_goals(refine ap ly hQ ?_)
        all_goals(refine⟨_,_,Wk.of_eq ?_,?_,rfl,rfl⟩)
        all_goals first|exact HF|(have hall:=HA.out;simp[dh, *];done)|(have hall:=HA.out;simp[dh, *];grind)
      · have hi9:8<i:=by omega
        have hl9:8<ts.length:=by omega
        have hres:dh ⟨nt,rel,ts⟩=false:=by unfold dh;rw[decide_eq_false (p:=ts.length<=8) (by omega)];simp
        have HRES:=u_ hres
        clear hall hlt hres
        cases hz:di rel
        all_goals
          rw[hz]at w1
          (repeat'(first|refine Ctl ?_|((with_reducible refine j_ hK ?_);clear hK hE K E)|((with_reducible refine aj (fun h=>?_) (fun h=>?_))<;>(try(exfalso;omega)))|((first|(with_reducible first|refine ae fun K E hK hE=>?_|refine ak lK (w1 _) ?_)|((with_reducible refine dy (fun h=>?_) (fun h=>?_))<;>(try(exfalso;omega))))<;>(try simp(disch:=omega) only[go_sem,seval,a_, *]))))
        all_goals(refine ap ly hQ ?_)
        all_goals(refine⟨_,_,Wk.of_eq ?_,?_,rfl,rfl⟩)
        all_goals first|exact HF|(rw[HRES.out];done)|(rw[HRES.out];simp;omega)
end Go.Proofs.YteldpmgepfaiiaaGreatDoor
