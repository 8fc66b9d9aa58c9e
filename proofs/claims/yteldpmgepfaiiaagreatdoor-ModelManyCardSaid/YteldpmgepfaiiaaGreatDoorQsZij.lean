/- Walks of functions, and plain facts. Conditions: those in the statements. -/
import Derived.Test.YteldpmgepfaiiaaGreatDoorQsZgj
set_option linter.unusedSimpArgs false
set_option linter.unusedVariables false
set_option maxRecDepth 100000
namespace Go.Proofs.YteldpmgepfaiiaaGreatDoor
open Go.RowKit
attribute [local go_sem] aH aV cH
def TD (x:Pgm)(L:List Tbl):Rlt:=fun n row=>row∈cS x L n
structure DocOk (x:Pgm) (L:List Tbl):Prop where
 nm:L.map (·.nm)=x.decls.map (·.name)
 row:∀(k:Nat) (y:Tbl) (d:Dcl),L[k]?=some y->x.decls[k]?=some d->∀r,r∈y.rs->r.length=d.doms.length/\Sml r
 ris:∀y,y∈L->Rising y.rs
 le:∀y,y∈L->y.rs.length<=600
theorem DocOk.len {x:Pgm}{L:List Tbl}(h:DocOk x L):L.length=x.decls.length:=by have:=congrArg List.length h.nm;simpa using this
theorem DocOk.td {x:Pgm}{L:List Tbl}(h:DocOk x L):TdOk x L:=⟨h.len,h.row,fun y hy=>by have:=h.le y hy;omega⟩
theorem TdOk.at_ {x:Pgm}{L:List Tbl}(h:TdOk x L){n:List UInt8}{k:Nat}(hk:cO x.decls n=some k):∃y,L[k]?=some y:=by
 have h1:=(n_.1 (cI (show ixT n (x.decls.map (·.name))=some k from hk))).1
 rw[a_]at h1
 exact aN (by rw[h.len];exact h1)
section
variable {x : Pgm} {L : List Tbl} {r : Rul} {vs : List (List UInt8)}
theorem TdOk.arity (h:TdOk x L)(hs:RulSnd x r vs):∀a,a∈r.body->∀row,row∈cS x L a.rel->row.length=a.ts.length:=fun a ha row hr=>by
 obtain⟨k,d,h1,h2,h3⟩:=hs.bd a ha
 obtain⟨y,hy⟩:=h.at_ h1
 rw[jo h1 hy]at hr
 rw[h3]
 exact(h.row k y d hy h2 row hr).1
theorem TdOk.good (h:TdOk x L)(hs:RulSnd x r vs):RGood (cS x L) vs (ku vs) (cE r.body) (cU vs):=fun e' he=>by
 have hlen:=fE he
 have hf:=g8 (fun a ha=>h.arity hs a (kF ha)) hs.cov he
 refine⟨hf,⟨?_,fun n hn=>?_⟩,?_⟩
 ·unfold fi;rw[a_,hlen];simp only[cU,List.length_replicate];have:=hs.vl;omega
 ·unfold fi at hn
  obtain⟨o,ho,rfl⟩:=E_.1 hn
  cases o with
  |none=>exact absurd rfl (hf _ ho)
  |some v=>
   rcases ln he ho with e|⟨a,ha,row,hr,hv⟩
   ·unfold cU at e
    have:=List.eq_of_mem_replicate e
    cases this
   ·obtain⟨k,d,h1,h2,_⟩:=hs.bd a (kF ha)
    obtain⟨y,hy⟩:=h.at_ h1
    rw[jo h1 hy]at hr
    exact(h.row k y d hy h2 row hr).2.2 v hv
 ·unfold fi;rw[a_,hlen];simp[cU]
theorem yT {e:Asg}(h:∀o,o∈e->o≠none):cx e=fi e:=by
 unfold cx fi
 refine List.map_congr_left fun o ho=>?_
 cases o with
 |none=>exact absurd rfl (h _ ho)
 |some v=>rfl
theorem tA {l m:List (List Int)}{r:List Int}:r∈l.foldl putRow m↔r∈m\/r∈l:=by
 induction l generalizing m with
 |nil=>simp
 |cons a l ih=>rw[List.foldl_cons,ih,eW,F_];grind
theorem tB {l m:List (List Int)}:(l.foldl putRow m).length<=m.length+l.length:=by
 induction l generalizing m with
 |nil=>simp
 |cons a l ih=>
  rw[List.foldl_cons,List.length_cons]
  have:=ih (m:=putRow m a)
  have h2:=(ii (l:=m) (r:=a)).1
  omega
theorem t6 {T:Tbs}{most:Nat}:∀{l:List Atm} {rows R:List Asg},eP T vs most l rows=some R->R.length<=most+rows.length
 |[],rows,R,h=>by simp only[eP]at h;injection h with h;subst h;omega
 |a::l,rows,R,h=>by
  simp only[eP]at h
  split at h
  ·exact t6 h
  ·split at h
   ·cases h
   ·rename_i hle
    have hle':(rows.flatMap fun e=>(T a.rel).filterMap (aP vs e a.ts)).length<=most:=by omega
    cases l with
    |nil=>simp only[eP]at h;injection h with h;subst h;omega
    |cons b l=>
     exact bodyR_le2 h hle'
where bodyR_le2 {T:Tbs} {most n:Nat}:∀{l:List Atm} {rows R:List Asg},eP T vs most l rows=some R->rows.length<=most->R.length<=most+n
 |[],rows,R,h,hr=>by simp only[eP]at h;injection h with h;subst h;omega
 |a::l,rows,R,h,hr=>by
  simp only[eP]at h
  split at h
  ·exact bodyR_le2 h hr
  ·split at h
   ·cases h
   ·rename_i hle
    exact bodyR_le2 h (by omega)
theorem zC (h:TdOk x L)(hs:RulSnd x r vs){most:Nat}{OUT:List (List Int)}(hb:t7 (cS x L) vs most r.body=some OUT):OUT.length<=most+1/\∀row,row∈OUT↔row∈eT (cS x L) vs r.body:=by
 unfold t7 at hb
 cases hR:eP (cS x L) vs most r.body [cU vs]with
 |none=>rw[hR]at hb;cases hb
 |some R=>
  rw[hR]at hb
  injection hb with hb
  have hle:=t6 hR
  have hsv:=jg hR
  rw[List.flatMap_cons,List.flatMap_nil,List.append_nil]at hsv
  have hI:R.map cx=R.map fi:=List.map_congr_left fun e he=>yT (h.good hs e (hsv ▸ he)).1
  have hO:OUT=((R.map fi).filter (dB (cS x L) vs (cK r.body))).foldl putRow []:=by rw[<- hb];unfold yZ;rw[hI]
  constructor
  ·rw[hO]
   have h1:=tB (l:=(R.map fi).filter (dB (cS x L) vs (cK r.body))) (m:=[])
   have h2:=List.length_filter_le (dB (cS x L) vs (cK r.body)) (R.map fi)
   rw[a_]at h2
   simp only[List.length_nil,List.length_singleton]at h1 hle
   omega
  ·intro row
   rw[hO,tA,hsv]
   simp only[List.not_mem_nil,false_or]
   rfl
theorem TdOk.gives (h:TdOk x L)(hs:RulSnd x r vs){row:List Int}:(∃rr,rr∈eT (cS x L) vs r.body/\aU vs rr r.head.ts=row)↔∃g,Sat (TD x L) g r.body/\ei g r.head.ts=row:=
 qj hs.bf (fun a ha _=>h.arity hs a ha) hs.cov hs.hf
theorem TdOk.sml (h:TdOk x L)(hs:RulSnd x r vs){rr:List Int}(hr:rr∈eT (cS x L) vs r.body):(aU vs rr r.head.ts).length=r.head.ts.length/\Sml (aU vs rr r.head.ts)/\rr.length=vs.length:=by
 have hg:ku vs rr:=(h.good hs).rows (ns:=cK r.body) hr
 exact⟨by simp[aU],fH hg.1 (by rw[hg.2];exact hs.hf) (by have:=hs.hl;omega) hs.hn,hg.2⟩
end
theorem FJ {x:Pgm}{L:List Tbl}{hi:Nat}{y:Tbl}{n0:List UInt8}(hh:cO x.decls n0=some hi)(hy:L[hi]?=some y){rs:List (List Int)}(n:List UInt8)(row:List Int) :
  TD x (L.set hi ⟨y.nm,rs⟩) n row↔(n=n0/\row∈rs)\/(n≠n0/\TD x L n row):=by
 unfold TD cS
 cases hk:cO x.decls n with
 |none=>
  have hne:n≠n0:=by rintro rfl;rw[hh]at hk;cases hk
  simp[hne]
 |some k=>
  simp only
  by_cases e:hi=k
  ·subst e
   have hn:n=n0:=by
    have h1:=cI (show ixT n (x.decls.map (·.name))=some hi from hk)
    have h2:=cI (show ixT n0 (x.decls.map (·.name))=some hi from hh)
    rw[h1]at h2
    injection h2
   rw[i_ (n_.1 hy).1]
   simp[hn]
  ·rw[s_ e]
   have hne:n≠n0:=by rintro rfl;rw[hh]at hk;injection hk with hk;exact e hk
   simp[hne]
def jJ (L:List Tbl):Nat:=(L.map fun y=>y.rs.length).sum
theorem ww {L:List Tbl}(h:∀y,y∈L->y.rs.length<=600):jJ L<=L.length*600:=by
 unfold jJ
 induction L with
 |nil=>simp
 |cons a X ih=>
  simp only[List.map_cons,List.sum_cons,List.length_cons]
  have h1:=h a (by simp)
  have h2:=ih fun y hy=>h y (by simp[hy])
  omega
theorem sj:∀{L:List Tbl} {k:Nat} {y z:Tbl},L[k]?=some y->jJ (L.set k z)+y.rs.length=jJ L+z.rs.length
 |[],k,y,z,h=>by simp at h
 |a::X,0,y,z,h=>by
  simp only[List.getElem?_cons_zero,Option.some.injEq]at h
  subst h
  simp only[jJ,List.set_cons_zero,List.map_cons,List.sum_cons]
  omega
 |a::X,k+1,y,z,h=>by
  have ih:=sj (L:=X) (k:=k) (z:=z) (by simpa using h)
  simp only[jJ,List.set_cons_succ,List.map_cons,List.sum_cons]at ih ⊢
  omega
theorem ss {x:Pgm}(hd:∀d,d∈x.doms->d.size<=256)(h:(soundP x).2.1=0){k:Nat}{r:Rul}(hr:x.rules[k]?=some r):∃Y,bJ x r=.ok Y/\RulSnd x r Y.vs:=by
 obtain⟨l,hs,hr0,hb,hst⟩:=eq h
 obtain⟨Y,hY⟩:=fo x.rules 0 hb r (p_ hr)
 have hp:=dL hr0
 have hbd:=(ij hp).2.2 r (p_ hr)
 have hrb:dJ r=true:=by
  unfold cm at hp
  simp only[Bool.and_eq_true,List.all_eq_true]at hp
  exact hp.2 r (p_ hr)
 exact⟨Y,hY,sG hd hrb hbd hY⟩
theorem yU {l m:List (List Int)}(hl:Rising l)(hm:Rising m)(hs:∀r,r∈l->r∈m)(hn:m.length<=l.length):m=l:=
 gJ hm hl fun r=>⟨fun hr=>Classical.byContradiction fun hnot=>by
  have:=rk (l:=r::l) (m:=m) (List.nodup_cons.2 ⟨hnot,hl.nodup⟩) fun x hx=>by
   rcases F_.1 hx with rfl|hx
   ·exact hr
   ·exact hs x hx
  simp only[List.length_cons]at this
  omega,hs r⟩
def eR (x:Pgm)(g:List Tbl)(L:List Tbl)(e:Int):Prop:=
 if (soundP x).2.1≠0 then L=[]/\e=(soundP x).2.1
 else if cQ x [] g=false then L=[]/\e=1
 else e=0/\EvalOk x (cP g) L
theorem nq {x:Pgm}:∀{l:List Tbl} {seen:List (List UInt8)},cQ x seen l=true->(l.map (·.nm)).Nodup
 |[],_,_=>List.nodup_nil
 |a::l,seen,h=>by
  have h0:=h
  simp only[cQ]at h
  cases hk:cO x.decls a.nm with
  |none=>rw[hk]at h;cases h
  |some k=>
   rw[hk]at h
   simp only at h
   cases hd:x.decls[k]? with
   |none=>rw[hd]at h;cases h
   |some d=>
    rw[hd]at h
    simp only[Bool.and_eq_true]at h
    rw[List.map_cons,List.nodup_cons]
    refine⟨fun hm=>?_,nq h.2⟩
    obtain⟨t,ht,hn⟩:=E_.1 hm
    obtain⟨_,_,_,_,h3,_⟩:=dD h.2 t ht
    exact h3 (by simp[hn])
theorem Cm {x:Pgm}{g:List Tbl}(hd:∀d,d∈x.doms->d.size<=256)(hdd:∀d,d∈x.decls->d.doms.length<=100000)(hg:cQ x [] g=true)(hdn:(x.decls.map (·.name)).Nodup)(hle:∀t,t∈g->t.rs.length<=600):DocOk x (eQ x g)/\∀n row,TD x (eQ x g) n row↔cP g n row:=by
 have hat:∀(k:Nat) (d:Dcl),x.decls[k]?=some d->(eQ x g)[k]?=some ⟨d.name,aW g d.name⟩:=fun k d h=>by unfold eQ;rw[c_,h];rfl
 have key2:∀(k:Nat) (d:Dcl),x.decls[k]?=some d->dC x.doms d.doms none (aW g d.name)=true/\(aW g d.name).length<=600:=fun k d hk=>by
  unfold aW
  cases hf:g.find? (fun t=>decide (t.nm=d.name))with
  |none=>exact⟨rfl,by simp⟩
  |some t=>
   obtain⟨k',d',h1,h2,_,h4⟩:=dD hg t (List.mem_of_find?_eq_some hf)
   have hn:t.nm=d.name:=by simpa using List.find?_some hf
   have h5:=gz hdn (show (x.decls.map (·.name))[k]?=some d.name by rw[c_,hk];rfl)
   rw[hn]at h1
   have h6:k'=k:=by have:=h1.symm.trans h5;injection this
   subst h6
   rw[hk]at h2
   injection h2 with h2
   subst h2
   exact⟨h4,hle t (List.mem_of_find?_eq_some hf)⟩
 have hmem:∀y,y∈eQ x g->∃(k:Nat) (d:Dcl),x.decls[k]?=some d/\y=⟨d.name,aW g d.name⟩:=fun y hy=>by
  unfold eQ at hy
  obtain⟨d,hd,rfl⟩:=E_.1 hy
  obtain⟨k,hk⟩:=h_.1 hd
  exact⟨k,d,hk,rfl⟩
 refine⟨⟨?_,fun k y d hy hd2 r hr=>?_,fun y hy=>?_,fun y hy=>?_⟩,fun n row=>?_⟩
 ·unfold eQ;rw[List.map_map];rfl
 ·rw[hat k d hd2]at hy
  injection hy with hy
  subst hy
  obtain⟨h1,h2⟩:=jz (key2 k d hd2).1 r hr
  exact⟨h1,kD hd h2 h1 (hdd d (p_ hd2))⟩
 ·obtain⟨k,d,hk,rfl⟩:=hmem y hy
  exact(iq (key2 k d hk).1).1
 ·obtain⟨k,d,hk,rfl⟩:=hmem y hy
  exact(key2 k d hk).2
 ·unfold TD cS cP
  cases hk:cO x.decls n with
  |none=>
   simp only[List.not_mem_nil,false_iff]
   intro h
   obtain⟨t,ht,rfl,_⟩:=fQ h
   obtain⟨k,d,h1,_⟩:=dD hg t ht
   rw[hk]at h1
   cases h1
  |some k=>
   have h1:=cI (show ixT n (x.decls.map (·.name))=some k from hk)
   rw[c_]at h1
   obtain⟨d,hd,rfl⟩:=Option.map_eq_some_iff.1 h1
   simp only[hat k d hd,Option.map_some,Option.getD_some]
set_option maxHeartbeats 16000000 in
theorem EH (x:Pgm)(g:List Tbl)(oL:Own)(ways:Nat)(hx:PgmOk x)(hw:ways<=1000000)(hds:∀d,d∈x.doms->d.size<=256)(hgl:g.length<=100000)(hrs:∀t,t∈g->t.rs.length<=600/\∀r,r∈t.rs->r.length<=100000)(t:St) :
  SCalls Tryz.prog 24 [.agg (pgC x),.lst (g.map aX) oL,.int .i64 (ways:Int),.int .i64 600] t fun w u=>∃q:List Tbl×Int×Bool,w=.ret (.tup [.lst (q.1.map aX) .no,.int .i64 q.2.1,.bool q.2.2])/\u=t/\(q.2.2=true->eR x g q.1 q.2.1):=by
 have w1:=fun s=>ut x hx s
 have wgv:=fun s=>uq x g oL hx (by omega) (fun t ht=>⟨by have:=(hrs t ht).1;omega,fun r hr=>by have:=(hrs t ht).2 r hr;omega⟩) s
 by_cases hs:(soundP x).2.1=0
 ·obtain⟨st,hsp,hr0,hb0,hst⟩:=eq hs
  obtain⟨hdl,hrl,hbd⟩:=ij (dL hr0)
  have hnd:=wP hr0
  rw[hsp]at w1
  have hcl:(x.decls.map az).length=x.decls.length:=by simp
  have hrl1:(x.rules.map ax).length=x.rules.length:=by simp
  have HX:=u_ hx
  cases hT:cQ x [] g with
  |false=>
   have HP:Hid (eR x g [] 1):=u_ (by unfold eR;rw[if_neg (by simp[hs]),if_pos hT];exact⟨rfl,rfl⟩)
   rw[hT]at wgv
   simp only[pgC,iL]at w1 wgv ⊢
   clear hT
   refine aw Tryz.func24 rfl Tryz.ntmps24 rfl fun Q hQ hQe=>?_
   (repeat'(first|refine Ctl ?_|((with_reducible refine j_ hK ?_);clear hK hE K E)|((with_reducible refine aj (fun h=>?_) (fun h=>?_))<;>(try(exfalso;assumption)))|((first|(with_reducible first|refine ae fun K E hK hE=>?_|refine ak BW (w1 _) ?_|refine ak xQ (wgv _) ?_)|((with_reducible refine ao (fun b hb=>?_))))<;>(try simp(disch:=omega) only[go_sem,seval, *]))))
   all_goals(refine ap pR hQ ?_)
   all_goals exact⟨_,t,z_ (.lst _ _ (.same _ (.same _ .nil))),bC,([],1,true),rfl,rfl,fun _=>HP.out⟩
  |true=>
   have hdd:∀d,d∈x.decls->d.doms.length<=100000:=fun d hd=>by
    have hp:=dL hr0
    unfold cm at hp
    simp only[Bool.and_eq_true,List.all_eq_true]at hp
    have:=hp.1.2 d hd
    unfold eS at this
    simp only[Bool.and_eq_true,decide_eq_true_eq]at this
    omega
   have hbg:=Cm hds hdd hT hnd.2 (fun t ht=>(hrs t ht).1)
   have wb:=fun s=>CM x g oL hx (by omega) (by omega) (nq hT) s
   have w3:=fun n s=>lR x n hx.2.1 s
   have HBG:=u_ hbg
   have HTT:=u_ hT
   rw[hT]at wgv
   simp only[pgC,iL]at w1 wgv wb w3 ⊢
   clear hT hbg hdd
   refine aw Tryz.func24 rfl Tryz.ntmps24 rfl fun Q hQ hQe=>?_
   (repeat'(first|refine Ctl ?_|((with_reducible refine j_ hK ?_);clear hK hE K E)|((with_reducible refine aj (fun h=>?_) (fun h=>?_))<;>(try(exfalso;assumption)))|((first|(with_reducible first|refine ae fun K E hK hE=>?_|refine ak BW (w1 _) ?_|refine ak xQ (wgv _) ?_|refine ak MB (wb _) ?_)|((with_reducible refine ao (fun b hb=>?_))))<;>(try simp(disch:=omega) only[go_sem,seval, *]))))
   obtain⟨b4,hb4⟩:∃z,z=b:=⟨_,rfl⟩
   subst hb4
   have q4:(t.set b4 (.obj 26 [.lst (x.doms.map dmC) .no,.lst (x.decls.map az) .no,.lst (x.rules.map ax) .no])) b4=.obj 26 [.lst (x.doms.map dmC) .no,.lst (x.decls.map az) .no,.lst (x.rules.map ax) .no]:=q_ _ _ _
   have HF:Hid (Fg (t.set b4 (.obj 26 [.lst (x.doms.map dmC) .no,.lst (x.decls.map az) .no,.lst (x.rules.map ax) .no])) t):=u_ (v_ _ hb)
   generalize t.set b4 (.obj 26 [.lst (x.doms.map dmC) .no,.lst (x.decls.map az) .no,.lst (x.rules.map ax) .no])=S at *
   have l4:S b4≠.free:=by rw[q4];simp
   clear hb w1 wgv wb
   refine aI (fun m env s'=>∃(sg:Nat) (L:List Tbl),sg<=x.decls.length/\m+sg=x.decls.length/\S=s'/\Hid (DocOk x L)/\Hid (∀n row,TD x L n row↔Mdl x.rules (stN x) (cP g) sg n row)/\env 2=.int .i64 (ways:Int)/\env 3=.int .i64 600/\env 4=.ptr b4 0/\env 11=.lst (aB (st.map fun n:Nat=>(n:Int))) .no/\env 13=.lst (L.map aX) .no/\env 14=.int .i64 sg) x.decls.length ?_ ?_
   ·exact⟨_,Fg.refl _,0,eQ x g,by omega,by omega,rfl,u_ HBG.out.1,u_ HBG.out.2,ab,ab,ab,ab,ab,ab⟩
   rintro m env s' ⟨sg,L,hi0,hm,he0,HD,HT,e2,e3,e4,e11,e13,e14⟩
   subst he0
   by_cases hlt:sg<x.decls.length
   ·(repeat'(first|refine Ctl ?_|((with_reducible refine j_ hK ?_);clear hK hE K E)|((with_reducible refine aj (fun h=>?_) (fun h=>?_))<;>(try(exfalso;assumption)))|(((with_reducible refine ae fun K E hK hE=>?_))<;>(try simp(disch:=omega) only[go_sem,seval, *]))))
    have hle0:=ww HD.out.le
    rw[HD.out.len]at hle0
    refine aI (fun m2 env s2=>∃(ag:Bool) (L:List Tbl),m2+jJ L=x.decls.length*600+ag.toNat/\jJ L<=x.decls.length*600/\S=s2/\Hid (DocOk x L)/\Hid (∀n row,Mdl x.rules (stN x) (cP g) sg n row->TD x L n row)/\Hid (∀n row,TD x L n row->Mdl x.rules (stN x) (cP g) (sg+1) n row)/\Hid (ag=false->pq x.rules (stN x) sg (TD x L))/\env 2=.int .i64 (ways:Int)/\env 3=.int .i64 600/\env 4=.ptr b4 0/\env 11=.lst (aB (st.map fun n:Nat=>(n:Int))) .no/\env 13=.lst (L.map aX) .no/\env 14=.int .i64 sg/\env 15=.bool ag) (x.decls.length*600+1 - jJ L) ?_ ?_
    ·exact⟨_,Fg.refl _,true,L,by simp only[Bool.toNat_true];omega,by omega,rfl,HD,u_ (fun n row h=>(HT.out n row).2 h),u_ (fun n row h=>im ((HT.out n row).1 h)),u_ (fun h=>by cases h),ab,ab,ab,ab,ab,ab,ab⟩
    clear e2 e3 e4 e11 e13 e14 HD HT env L hle0
    rintro m2 env s2 ⟨ag,L,hm2,htot,he0,HD,HLO,HUP,HCL,e2,e3,e4,e11,e13,e14,e15⟩
    subst he0
    cases ag with
    |false=>
     (repeat'(first|refine Ctl ?_|((with_reducible refine j_ hK ?_);clear hK hE K E)|((with_reducible refine aj (fun h=>?_) (fun h=>?_))<;>(try(exfalso;assumption)))|(((with_reducible refine ae fun K E hK hE=>?_))<;>(try simp(disch:=omega) only[go_sem,seval, *]))))
     exact⟨_,Fg.refl _,m - 1,by omega,sg+1,L,by omega,by omega,rfl,HD,u_ (xi HLO.out HUP.out (HCL.out rfl)),ab,ab,ab,ab,ab,ab⟩
    |true=>
     (repeat'(first|refine Ctl ?_|((with_reducible refine j_ hK ?_);clear hK hE K E)|((with_reducible refine aj (fun h=>?_) (fun h=>?_))<;>(try(exfalso;assumption)))|(((with_reducible refine ae fun K E hK hE=>?_))<;>(try simp(disch:=omega) only[go_sem,seval, *]))))
     simp only[Bool.toNat_true]at hm2
     have HL0:=u_ (show L=L from rfl)
     refine aI (fun m3 env s3=>∃(k:Nat) (ah:Bool) (M:List Tbl),k<=x.rules.length/\m3+k=x.rules.length/\S=s3/\Hid (DocOk x M)/\Hid (∀n row,Mdl x.rules (stN x) (cP g) sg n row->TD x M n row)/\Hid (∀n row,TD x M n row->Mdl x.rules (stN x) (cP g) (sg+1) n row) /\
      Hid (ah=false->M=L/\∀j r,j<k->x.rules[j]?=some r->stN x r.head.rel=sg->∀g,Sat (TD x M) g r.body->TD x M r.head.rel (ei g r.head.ts))/\Hid (jJ L<=jJ M/\(ah=true->jJ L<jJ M))/\env 2=.int .i64 (ways:Int)/\env 3=.int .i64 600/\env 4=.ptr b4 0/\env 11=.lst (aB (st.map fun n:Nat=>(n:Int))) .no/\env 13=.lst (M.map aX) .no/\env 14=.int .i64 sg/\env 15=.bool ah/\env 16=.int .i64 k) x.rules.length ?_ ?_
     ·exact⟨_,Fg.refl _,0,false,L,by omega,by omega,rfl,HD,HLO,HUP,u_ (fun _=>⟨rfl,fun j r hj=>absurd hj (Nat.not_lt_zero _)⟩),u_ ⟨Nat.le_refl _,fun h=>by cases h⟩,ab,ab,ab,ab,ab,ab,ab,ab⟩
     clear e2 e3 e4 e11 e13 e14 e15 HD HLO HUP HCL env
     rintro m3 env s3 ⟨k,ah,M,hk,hm3,he0,HD,HLO,HUP,HAF,HTO,e2,e3,e4,e11,e13,e14,e15,e16⟩
     subst he0
     by_cases hltk:k<x.rules.length
     ·obtain⟨r,hr⟩:=aN hltk
      have hsr:=kA hr
      obtain⟨Y,hY,hsnd⟩:=ss hds hs hr
      obtain⟨hi,d0,hh,hd0,hdl0⟩:=hsnd.hd
      obtain⟨y,hy⟩:=HD.out.td.at_ hh
      have hrz:eI x.decls r.head.rel=(hi:Int):=by unfold eI;rw[hh]
      have w4:=w3 r.head.rel
      rw[hrz]at w4
      have hstl:st.length=x.decls.length:=(jp hst).1
      have hhl:hi<x.decls.length:=(n_.1 hd0).1
      obtain⟨sv,hsv⟩:∃sv,st[hi]?=some sv:=aN (by omega)
      have hsst:(aB (st.map fun n:Nat=>(n:Int)))[hi]?=some [.int .i64 (sv:Int)]:=cD (by rw[c_,hsv];rfl)
      have hstl2:(aB (st.map fun n:Nat=>(n:Int))).length=x.decls.length:=by rw[bH,a_,hstl]
      have hsN:stN x r.head.rel=sv:=by unfold stN ixR;rw[hsp,hh];simp only[gt,Option.getD_some,hsv]
      have wsc:=fun s=>uu s x r hx.1 hx.2.1 (by have:=hsnd.bl;omega) (fun a ha=>by rcases ha with rfl|ha;exact Nat.le_trans hsnd.hl (by omega);exact Nat.le_trans (hsnd.bt a ha) (by omega))
      rw[hY]at wsc
      simp only[lq]at wsc
      have wbd:=fun s=>EJ x r Y.vs M ways .no .no hx hsnd HD.out.td hw s
      have hlM:(M.map aX).length=M.length:=by simp
      have hML:=HD.out.len
      have HR:=u_ hr
      have HSND:=u_ hsnd
      have HH:=u_ hh
      have HY:=u_ hy
      have HSN:=u_ hsN
      have HD0:=u_ hd0
      have HDL0:=u_ hdl0
      obtain⟨rh,rb⟩:=r
      simp only[ax,pgC]at hsr wsc wbd
      simp only at w4
      generalize hvs:Y.vs=vs at *
      generalize aA Y.ds=YD at *
      clear hr hsnd hh hy hsN hd0 hdl0 hsv hY hrz
      by_cases hsg:sv=sg
      ·have hsgT:((sv:Int)=(sg:Int))=True:=eq_true (by omega)
       cases hbd2:t7 (cS x M) vs ways rb with
       |none=>
        simp only[hbd2,Cl]at wbd
        clear hbd2
        (repeat'(first|refine Ctl ?_|(with_reducible first|(refine j_ hK ?_;clear hK hE K E)|(refine j_ hKh ?_;clear hKh Kh)|(refine j_ hKb (aL ?_);clear hKb Kb)|refine aq 16 [([0,1,2,3,4,5,6,7],8,[[]])] [9] hQe fun K E hK hE=>?_|refine jG 18 (.two [0,1,2,3,4,5] 6 [[]] (.one [7,8,9] 10 [[7,8,9],[]] (.one [] 11 [[],[9],[]] (.fin [12]))) 10 [[0,1,2,3,4,5]] (.one [] 6 [[],[]] (.one [7,8,9] 11 [[9],[],[]] (.fin [12])))) hQe fun K E hK hE=>?_|refine aq 20 [([0,1,2,3,4,5,6,7,8],9,[[]])] [10,11,12,13,14] hQe fun K E hK hE=>?_)|((with_reducible refine aj (fun h=>?_) (fun h=>?_))<;>(try(exfalso;assumption)))|((first|(with_reducible first|refine ae fun K E hK hE=>?_|refine ak fm (w4 _) ?_|refine ak xO (wsc _) ?_|refine ak Fo (wbd _) ?_|refine aE fun Kh hKh=>?_|refine aD fun Kh hKh=>?_|refine aM fun Kb hKb=>?_|refine jE fun Kh hKh=>?_|refine qy fun Kh hKh=>?_|refine qx fun Kh hKh=>?_|refine lP (fun Kb hKb=>?_) (fun Kb hKb=>?_))|((with_reducible refine ao (fun b hb=>?_));(try(obtain⟨_,_⟩:=nef hb l4))))<;>(try simp(disch:=omega) only[go_sem,seval, *]))))
        all_goals(refine ap pR hQ ?_)
        all_goals exact⟨_,t,z_ (.lst _ _ (.same _ (.same _ .nil))),(v_ _ hb).trans HF.out,([],0,false),rfl,rfl,fun h=>by cases h⟩
       |some OUT=>
        have hbm:=zC HD.out.td HSND.out hbd2
        have HBM:=u_ hbm.2
        have hOl:=hbm.1
        simp only[hbd2,Cl]at wbd
        have hsy:(M.map aX)[hi]?=some [.str y.nm,.lst (aF y.rs) .no]:=dZ HY.out
        have hyl:=HD.out.le y (p_ HY.out)
        have hyl2:(aF y.rs).length=y.rs.length:=rowsV_len
        have hOl2:(aF OUT).length=OUT.length:=rowsV_len
        have hiM:hi<M.length:=by omega
        clear hbd2 hbm
        (repeat'(first|refine Ctl ?_|(with_reducible first|(refine j_ hK ?_;clear hK hE K E)|(refine j_ hKh ?_;clear hKh Kh)|(refine j_ hKb (aL ?_);clear hKb Kb)|refine aq 16 [([0,1,2,3,4,5,6,7],8,[[]])] [9] hQe fun K E hK hE=>?_|refine jG 18 (.two [0,1,2,3,4,5] 6 [[]] (.one [7,8,9] 10 [[7,8,9],[]] (.one [] 11 [[],[9],[]] (.fin [12]))) 10 [[0,1,2,3,4,5]] (.one [] 6 [[],[]] (.one [7,8,9] 11 [[9],[],[]] (.fin [12])))) hQe fun K E hK hE=>?_|refine aq 20 [([0,1,2,3,4,5,6,7,8],9,[[]])] [10,11,12,13,14] hQe fun K E hK hE=>?_)|((with_reducible refine aj (fun h=>?_) (fun h=>?_))<;>(try(exfalso;assumption)))|((first|(with_reducible first|refine ae fun K E hK hE=>?_|refine ak fm (w4 _) ?_|refine ak xO (wsc _) ?_|refine ak Fo (wbd _) ?_|refine aE fun Kh hKh=>?_|refine aD fun Kh hKh=>?_|refine aM fun Kb hKb=>?_|refine jE fun Kh hKh=>?_|refine qy fun Kh hKh=>?_|refine qx fun Kh hKh=>?_|refine lP (fun Kb hKb=>?_) (fun Kb hKb=>?_))|((with_reducible refine ao (fun b hb=>?_));(try(obtain⟨_,_⟩:=nef hb l4))))<;>(try simp(disch:=omega) only[go_sem,seval, *]))))
        all_goals
         have hset0:M.set hi ⟨y.nm,y.rs⟩=M:=by
          obtain⟨h1,h2⟩:=n_.1 HY.out
          refine List.ext_getElem? fun j=>?_
          by_cases e:hi=j
          ·subst e;rw[i_ h1,HY.out]
          ·rw[s_ e]
         have HSET0:=u_ hset0
         refine aI (fun m5 env s5=>∃(q:Nat) (rs:List (List Int)),q<=OUT.length/\m5+q=OUT.length/\S=s5/\Hid (Rising rs)/\y.rs.length<=rs.length/\rs.length<=y.rs.length+q/\Hid (∀row,row∈rs↔row∈y.rs\/∃rr,rr∈OUT.take q/\aU vs rr rh.ts=row)/\env 2=.int .i64 (ways:Int)/\env 3=.int .i64 600/\env 4=.ptr b4 0/\env 11=.lst (aB (st.map fun n:Nat=>(n:Int))) .no/\env 13=.lst ((M.set hi ⟨y.nm,rs⟩).map aX) .no/\env 14=.int .i64 sg/\env 15=.bool ah/\env 16=.int .i64 k/\env 17=.int .i64 hi/\env 20=.lst (aA vs) .no/\env 21=.lst (aF OUT) .no/\env 23=.int .i64 y.rs.length/\env 24=.int .i64 q) OUT.length ?_ ?_
         ·exact⟨S,v_ _ hb,0,y.rs,by omega,by omega,rfl,u_ (HD.out.ris y (p_ HY.out)),Nat.le_refl _,by omega,u_ (fun row=>by simp),ab,ab,ab,ab,by rw[hset0];((try simp(disch:=assumption) only[go_sem,seval, *])<;>rfl),ab,ab,ab,ab,ab,ab,ab,ab⟩
         clear e2 e3 e4 e11 e13 e14 e15 e16 env hb hset0
         rintro m5 env s5 ⟨q,rs,hq,hm5,he0,HRI,hr1,hr2,HRM,e2,e3,e4,e11,e13,e14,e15,e16,e17,e20,e21,e23,e24⟩
         subst he0
         have hlM2:((M.set hi ⟨y.nm,rs⟩).map aX).length=M.length:=by simp
         have hget:(M.set hi ⟨y.nm,rs⟩)[hi]?=some ⟨y.nm,rs⟩:=i_ hiM
         have hsy2:((M.set hi ⟨y.nm,rs⟩).map aX)[hi]?=some [.str y.nm,.lst (aF rs) .no]:=dZ hget
         have hrl2:(aF rs).length=rs.length:=rowsV_len
         have HRW:Hid (∀row,row∈rs->row.length=d0.doms.length/\Sml row):=u_ fun row hrow=>by
          rcases(HRM.out row).1 hrow with h|⟨rr,h1,h2⟩
          ·exact HD.out.row hi y d0 HY.out HD0.out row h
          ·have h3:=HD.out.td.sml HSND.out ((HBM.out rr).1 (List.mem_of_mem_take h1))
           rw[<- h2,<- HDL0.out]
           exact⟨h3.1,h3.2.1⟩
         by_cases hltq:q<OUT.length
         ·obtain⟨rr,hrr⟩:=aN hltq
          have hsrr:=dK hrr
          have hin:=(HBM.out rr).1 (p_ hrr)
          have hsm:=HD.out.td.sml HSND.out hin
          have hrrl:=hsm.2.2
          have hvl8:vs.length<=8:=HSND.out.vl
          have hhl8:rh.ts.length<=8:=HSND.out.hl
          have hivl:(aU vs rr rh.ts).length<=100000:=hsm.2.1.1
          have w5:=fun s=>xZ vs rr .no .no rh (by omega) (by omega) (by rw[hrrl];exact HSND.out.hf) s
          have w6:=fun s=>ED (M.set hi ⟨y.nm,rs⟩) .no hi ⟨y.nm,rs⟩ (aU vs rr rh.ts) (by rw[List.length_set];omega) hget ⟨by show rs.length<=_;omega,fun r hr=>by have:=(HRW.out r hr).2.1;omega⟩ (by omega) s
          simp only[List.set_set]at w6
          simp only[aG]at w5
          have hpl:=ii (l:=rs) (r:=aU vs rr rh.ts)
          have HRM2:Hid (∀row,row∈putRow rs (aU vs rr rh.ts)↔row∈y.rs\/∃rr,rr∈OUT.take (q+1)/\aU vs rr rh.ts=row):=u_ fun row=>by
           rw[eW,HRM.out row,bY hrr]
           constructor
           ·rintro((h|⟨r2,h1,h2⟩)|h)
            ·exact .inl h
            ·exact .inr ⟨r2,List.mem_append_left _ h1,h2⟩
            ·exact .inr ⟨rr,by simp,h.symm⟩
           ·rintro(h|⟨r2,h1,h2⟩)
            ·exact .inl (.inl h)
            ·rcases l_.1 h1 with h1|h1
             ·exact .inl (.inr ⟨r2,h1,h2⟩)
             ·rw[e_]at h1;subst h1;exact .inr h2.symm
          have HRI2:Hid (Rising (putRow rs (aU vs rr rh.ts))):=u_ (gx HRI.out)
          generalize hPR:putRow rs (aU vs rr rh.ts)=PR at *
          generalize aU vs rr rh.ts=IV at *
          clear hrr hin hsm
          (repeat'(first|refine Ctl ?_|(with_reducible first|(refine j_ hK ?_;clear hK hE K E)|(refine j_ hKh ?_;clear hKh Kh)|(refine j_ hKb (aL ?_);clear hKb Kb)|refine aq 27 [([0,1,2,3,4,5,6,7,8,9,10,11,12],13,[[0,1]]),([],14,[[],[]])] [15] hQe fun K E hK hE=>?_)|((with_reducible refine aj (fun h=>?_) (fun h=>?_))<;>(try(exfalso;assumption)))|(((with_reducible first|refine ae fun K E hK hE=>?_|refine ak BV (w5 _) ?_|refine ak MA (w6 _) ?_|refine aE fun Kh hKh=>?_|refine aD fun Kh hKh=>?_|refine aM fun Kb hKb=>?_))<;>(try simp(disch:=omega) only[go_sem,seval, *]))))
          exact⟨S,Fg.refl _,m5 - 1,by omega,q+1,PR,by omega,by omega,rfl,HRI2,by omega,by omega,HRM2,ab,ab,ab,ab,ab,ab,ab,ab,ab,ab,ab,ab,ab⟩
         ·obtain rfl:q=OUT.length:=by omega
          by_cases hbig:600<rs.length
          ·have hb1:((600:Int)<(rs.length:Int))=True:=eq_true (by omega)
           (repeat'(first|refine Ctl ?_|((with_reducible refine j_ hK ?_);clear hK hE K E)|((with_reducible refine aj (fun h=>?_) (fun h=>?_))<;>(try(exfalso;assumption)))|(((with_reducible refine ae fun K E hK hE=>?_))<;>(try simp(disch:=omega) only[go_sem,seval, *]))))
           all_goals(refine ap pR hQ ?_)
           all_goals exact⟨_,t,z_ (.lst _ _ (.same _ (.same _ .nil))),HF.out,([],0,false),rfl,rfl,fun h=>by cases h⟩
          ·have hb1:((600:Int)<(rs.length:Int))=False:=eq_false (by omega)
           have hrm:=HRM.out
           rw[f_]at hrm
           have htu:=fun n row=>FJ (x:=x) HH.out HY.out (rs:=rs) n row
           have hhd:∀row,TD x M rh.rel row↔row∈y.rs:=fun row=>by unfold TD;rw[jo HH.out HY.out]
           have HD2:Hid (DocOk x (M.set hi ⟨y.nm,rs⟩)):=u_ ⟨by
            rw[<- HD.out.nm]
            refine List.ext_getElem? fun j=>?_
            rw[c_,c_]
            by_cases e:hi=j
            ·subst e;rw[hget,HY.out];rfl
            ·rw[s_ e],fun k2 z d hz hd r hr=>by
            by_cases e:hi=k2
            ·subst e
             rw[hget]at hz
             injection hz with hz
             subst hz
             rw[HD0.out]at hd
             injection hd with hd
             subst hd
             exact HRW.out r hr
            ·rw[s_ e]at hz
             exact HD.out.row k2 z d hz hd r hr,fun z hz=>by
            rcases List.mem_or_eq_of_mem_set hz with h|h
            ·exact HD.out.ris z h
            ·subst h;exact HRI.out,fun z hz=>by
            rcases List.mem_or_eq_of_mem_set hz with h|h
            ·exact HD.out.le z h
            ·subst h;show rs.length<=600;omega⟩
           have HLO2:Hid (∀n row,Mdl x.rules (stN x) (cP g) sg n row->TD x (M.set hi ⟨y.nm,rs⟩) n row):=u_ fun n row h=>by
            have h1:=HLO.out n row h
            by_cases e:n=rh.rel
            ·exact(htu n row).2 (.inl ⟨e,(hrm row).2 (.inl ((hhd row).1 (e ▸ h1)))⟩)
            ·exact(htu n row).2 (.inr ⟨e,h1⟩)
           have HUP2:Hid (∀n row,TD x (M.set hi ⟨y.nm,rs⟩) n row->Mdl x.rules (stN x) (cP g) (sg+1) n row):=u_ fun n row h=>by
            rcases(htu n row).1 h with ⟨e,h1⟩|⟨_,h1⟩
            ·rw[e]
             rcases(hrm row).1 h1 with h2|⟨rr,h2,h3⟩
             ·exact HUP.out _ _ ((hhd row).2 h2)
             ·obtain⟨gg,g1,g2⟩:=(HD.out.td.gives HSND.out).1 ⟨rr,(HBM.out rr).1 h2,h3⟩
              rw[<- g2]
              exact s9 (wC hs) HLO.out HUP.out (p_ HR.out) (HSN.out.trans hsg) g1
            ·exact HUP.out n row h1
           have hts:=sj (z:=⟨y.nm,rs⟩) HY.out
           have HT2:Hid (jJ (M.set hi ⟨y.nm,rs⟩)+y.rs.length=jJ M+rs.length):=u_ hts
           have HSAME:Hid (rs.length<=y.rs.length->rs=y.rs):=u_ fun h=>yU (HD.out.ris y (p_ HY.out)) HRI.out (fun r hr=>(hrm r).2 (.inl hr)) h
           have HCLK:Hid (∀gg,Sat (TD x M) gg rb->ei gg rh.ts∈rs):=u_ fun gg hgg=>by
            obtain⟨rr,g1,g2⟩:=(HD.out.td.gives HSND.out).2 ⟨gg,hgg,rfl⟩
            exact(hrm _).2 (.inr ⟨rr,(HBM.out rr).2 g1,g2⟩)
           have HHD:=u_ hhd
           clear htu hhd hts hrm hget
           generalize hM2:M.set hi ⟨y.nm,rs⟩=M2 at *
           have HM2:=u_ hM2
           have hto:=HTO.out
           clear hM2
           cases ah with
           |true=>
            (repeat'(first|refine Ctl ?_|((with_reducible refine j_ hK ?_);clear hK hE K E)|((with_reducible refine aj (fun h=>?_) (fun h=>?_))<;>(try(exfalso;assumption)))|(((with_reducible refine ae fun K E hK hE=>?_))<;>(try simp(disch:=omega) only[go_sem,seval, *]))))
            all_goals exact⟨S,Fg.refl _,m3 - 1,by omega,k+1,true,M2,by omega,by omega,rfl,HD2,HLO2,HUP2,u_ (fun h=>by cases h),u_ ⟨by have:=HT2.out;omega,fun _=>by have:=hto.2 rfl;have:=HT2.out;omega⟩,ab,ab,ab,ab,ab,ab,ab,ab⟩
           |false=>
            by_cases hnw:y.rs.length<rs.length
            ·have hnwT:((y.rs.length:Int)<(rs.length:Int))=True:=eq_true (by omega)
             (repeat'(first|refine Ctl ?_|((with_reducible refine j_ hK ?_);clear hK hE K E)|((with_reducible refine aj (fun h=>?_) (fun h=>?_))<;>(try(exfalso;assumption)))|(((with_reducible refine ae fun K E hK hE=>?_))<;>(try simp(disch:=omega) only[go_sem,seval, *]))))
             all_goals exact⟨S,Fg.refl _,m3 - 1,by omega,k+1,true,M2,by omega,by omega,rfl,HD2,HLO2,HUP2,u_ (fun h=>by cases h),u_ ⟨by have:=HT2.out;omega,fun _=>by have:=HT2.out;omega⟩,ab,ab,ab,ab,ab,ab,ab,ab⟩
            ·have hnwT:((y.rs.length:Int)<(rs.length:Int))=False:=eq_false (by omega)
             (repeat'(first|refine Ctl ?_|((with_reducible refine j_ hK ?_);clear hK hE K E)|((with_reducible refine aj (fun h=>?_) (fun h=>?_))<;>(try(exfalso;assumption)))|(((with_reducible refine ae fun K E hK hE=>?_))<;>(try simp(disch:=omega) only[go_sem,seval, *]))))
             have hrsE:=HSAME.out (by omega)
             have hME:M2=M:=by rw[<- HM2.out,hrsE];exact HSET0.out
             all_goals refine⟨S,Fg.refl _,m3 - 1,by omega,k+1,false,M2,by omega,by omega,rfl,HD2,HLO2,HUP2,u_ (fun _=>⟨hME.trans (HAF.out rfl).1,fun j r hj hjr hst2 gg hgg=>?_⟩),u_ ⟨by have:=HT2.out;omega,fun h=>by cases h⟩,ab,ab,ab,ab,ab,ab,ab,ab⟩
             rw[hME]at hgg ⊢
             by_cases e:j=k
             ·subst e
              rw[HR.out]at hjr
              injection hjr with hjr
              subst hjr
              exact(HHD.out _).2 (hrsE ▸ HCLK.out gg hgg)
             ·exact(HAF.out rfl).2 j r (by omega) hjr hst2 gg hgg
      ·have hsgT:((sv:Int)=(sg:Int))=False:=eq_false (by omega)
       (repeat'(first|refine Ctl ?_|(with_reducible first|(refine j_ hK ?_;clear hK hE K E)|(refine j_ hKh ?_;clear hKh Kh)|(refine j_ hKb (aL ?_);clear hKb Kb)|refine aq 16 [([0,1,2,3,4,5,6,7],8,[[]])] [9] hQe fun K E hK hE=>?_)|((with_reducible refine aj (fun h=>?_) (fun h=>?_))<;>(try(exfalso;assumption)))|(((with_reducible first|refine ae fun K E hK hE=>?_|refine ak fm (w4 _) ?_|refine aE fun Kh hKh=>?_|refine aD fun Kh hKh=>?_|refine aM fun Kb hKb=>?_))<;>(try simp(disch:=omega) only[go_sem,seval, *]))))
       all_goals refine⟨S,Fg.refl _,m3 - 1,by omega,k+1,ah,M,by omega,by omega,rfl,HD,HLO,HUP,u_ (fun h=>⟨(HAF.out h).1,fun j r hj hjr hst2=>?_⟩),HTO,ab,ab,ab,ab,ab,ab,ab,ab⟩
       by_cases e:j=k
       ·subst e
        rw[HR.out]at hjr
        injection hjr with hjr
        subst hjr
        exact absurd (HSN.out.symm.trans hst2) hsg
       ·exact(HAF.out h).2 j r (by omega) hjr hst2
     ·obtain rfl:k=x.rules.length:=by omega
      (repeat'(first|refine Ctl ?_|((with_reducible refine j_ hK ?_);clear hK hE K E)|((with_reducible refine aj (fun h=>?_) (fun h=>?_))<;>(try(exfalso;assumption)))|(((with_reducible refine ae fun K E hK hE=>?_))<;>(try simp(disch:=omega) only[go_sem,seval, *]))))
      have htY:=ww HD.out.le
      rw[HD.out.len]at htY
      have hto:=HTO.out
      refine⟨_,Fg.refl _,x.decls.length*600+ah.toNat - jJ M,?_,ah,M,?_,htY,rfl,HD,HLO,HUP,u_ fun h r hr hs g hg=>?_,ab,ab,ab,ab,ab,ab,ab⟩
      ·cases ah
       ·simp only[Bool.toNat_false];omega
       ·have:=hto.2 rfl;simp only[Bool.toNat_true];omega
      ·omega
      ·obtain⟨j,hj⟩:=h_.1 hr
       exact(HAF.out h).2 j r (n_.1 hj).1 hj hs g hg
   ·obtain rfl:sg=x.decls.length:=by omega
    have HP:Hid (eR x g L 0):=u_ (by
     unfold eR
     rw[if_neg (by simp[hs]),if_neg (by simp[HTT.out])]
     refine⟨rfl,HD.out.nm,fun tt htt=>⟨HD.out.ris tt htt,by have:=HD.out.le tt htt;omega,fun r=>?_⟩⟩
     obtain⟨j,hj⟩:=h_.1 htt
     have h1:(x.decls.map (·.name))[j]?=some tt.nm:=by rw[<- HD.out.nm,c_,hj];rfl
     have h2:=gz hnd.2 h1
     rw[<- HT.out]
     unfold TD
     rw[jo (show cO x.decls tt.nm=some j from h2) hj])
    (repeat'(first|refine Ctl ?_|((with_reducible refine j_ hK ?_);clear hK hE K E)|((with_reducible refine aj (fun h=>?_) (fun h=>?_))<;>(try(exfalso;assumption)))|(((with_reducible refine ae fun K E hK hE=>?_))<;>(try simp(disch:=omega) only[go_sem,seval, *]))))
    all_goals(refine ap pR hQ ?_)
    all_goals exact⟨_,t,Wk.refl _,HF.out,(L,0,true),rfl,rfl,fun _=>HP.out⟩
 ·have hbad:=lm hs
  have HP:Hid (eR x g [] (soundP x).2.1):=u_ (by unfold eR;rw[if_pos hs];exact⟨rfl,rfl⟩)
  rw[hbad]at w1
  generalize (soundP x).2.1=e at *
  have hef:(e=0)=False:=eq_false hs
  simp only[pgC,iL]at w1 ⊢
  clear hs hbad wgv
  refine aw Tryz.func24 rfl Tryz.ntmps24 rfl fun Q hQ hQe=>?_
  (repeat'(first|refine Ctl ?_|((with_reducible refine j_ hK ?_);clear hK hE K E)|((with_reducible refine aj (fun h=>?_) (fun h=>?_))<;>(try(exfalso;assumption)))|((first|(with_reducible first|refine ae fun K E hK hE=>?_|refine ak BW (w1 _) ?_)|((with_reducible refine ao (fun b hb=>?_))))<;>(try simp(disch:=omega) only[go_sem,seval, *]))))
  all_goals(refine ap pR hQ ?_)
  all_goals exact⟨_,t,z_ (.lst _ _ (.same _ (.same _ .nil))),bC,([],e,true),rfl,rfl,fun _=>HP.out⟩
end Go.Proofs.YteldpmgepfaiiaaGreatDoor
namespace Go.Proofs.YteldpmgepfaiiaaGreatDoor
open Go.RowKit
attribute [local go_sem] aH aV cH
set_option maxHeartbeats 4000000 in
theorem yf (x:Pgm)(g:List Tbl)(oL:Own)(hx:PgmOk x)(hds:∀d,d∈x.doms->d.size<=256)(hgl:g.length<=100000)(hrs:∀t,t∈g->t.rs.length<=600/\∀r,r∈t.rs->r.length<=100000)(t:St) :
  SCalls Tryz.prog 13 [.agg (pgC x),.lst (g.map aX) oL] t fun w u=>∃q:List Tbl×Int×Bool,w=.ret (.tup [.lst (q.1.map aX) .no,.int .i64 q.2.1,.bool q.2.2])/\u=t/\(q.2.2=true->eR x g q.1 q.2.1):=by
 have w1:=fun s=>EH x g oL 131072 hx (by omega) hds hgl hrs s
 simp only[pgC]at w1 ⊢
 refine aw Tryz.func13 rfl Tryz.ntmps13 rfl fun Q hQ hQe=>?_
 (repeat'(first|refine Ctl ?_|((with_reducible refine j_ hK ?_);clear hK hE K E)|((first|(with_reducible refine ae fun K E hK hE=>?_)|((with_reducible refine aO MK (w1 _) (fun a h=>?_)))|((with_reducible refine ao (fun b hb=>?_))))<;>(try simp(disch:=omega) only[go_sem,seval, *]))))
 all_goals(refine ap Fa hQ ?_)
 all_goals exact⟨_,t,Wk.refl _,v_ _ hb,a,rfl,rfl,h⟩
set_option maxHeartbeats 8000000 in
theorem uw (x:Pgm)(hx:PgmOk x)(hf:wm x)(t:St):SCalls Tryz.prog 10 [.agg (pgC x)] t fun w u=>∃r:Bool,w=.ret (.bool r)/\u=t/\(r=true->∀d,d∈x.doms->d.size<=8):=by
 obtain⟨f1,f2,f3,f4,f5⟩:=hf
 have hdl:(x.doms.map dmC).length=x.doms.length:=by simp
 have hcl:(x.decls.map az).length=x.decls.length:=by simp
 have hrl:(x.rules.map ax).length=x.rules.length:=by simp
 have HX:=u_ hx
 have HF5:=u_ f5
 simp only[pgC]
 clear f4 f5
 have hend:∀S:St,True:=fun _=>trivial
 refine aw Tryz.func10 rfl Tryz.ntmps10 rfl fun Q hQ hQe=>?_
 by_cases hbig:40<x.rules.length\/12<x.decls.length
 ·rcases hbig with h1|h1
  ·have hT:((40:Int)<(x.rules.length:Int))=True:=eq_true (by omega)
   (repeat'(first|refine Ctl ?_|((with_reducible refine j_ hK ?_);clear hK hE K E)|((with_reducible refine aj (fun h=>?_) (fun h=>?_))<;>(try(exfalso;assumption)))|((first|(with_reducible refine ae fun K E hK hE=>?_)|((with_reducible refine ao (fun b hb=>?_))))<;>(try simp(disch:=omega) only[go_sem,seval,hdl,hcl,hrl,hT, *]))))
   all_goals(refine ap mn hQ ?_)
   all_goals exact⟨_,_,Wk.refl _,v_ _ hb,false,rfl,rfl,fun h=>by cases h⟩
  ·by_cases h0:40<x.rules.length
   ·have hT:((40:Int)<(x.rules.length:Int))=True:=eq_true (by omega)
    (repeat'(first|refine Ctl ?_|((with_reducible refine j_ hK ?_);clear hK hE K E)|((with_reducible refine aj (fun h=>?_) (fun h=>?_))<;>(try(exfalso;assumption)))|((first|(with_reducible refine ae fun K E hK hE=>?_)|((with_reducible refine ao (fun b hb=>?_))))<;>(try simp(disch:=omega) only[go_sem,seval,hdl,hcl,hrl,hT, *]))))
    all_goals(refine ap mn hQ ?_)
    all_goals exact⟨_,_,Wk.refl _,v_ _ hb,false,rfl,rfl,fun h=>by cases h⟩
   ·have hT:((40:Int)<(x.rules.length:Int))=False:=eq_false (by omega)
    have hT2:((12:Int)<(x.decls.length:Int))=True:=eq_true (by omega)
    (repeat'(first|refine Ctl ?_|((with_reducible refine j_ hK ?_);clear hK hE K E)|((with_reducible refine aj (fun h=>?_) (fun h=>?_))<;>(try(exfalso;assumption)))|((first|(with_reducible refine ae fun K E hK hE=>?_)|((with_reducible refine ao (fun b hb=>?_))))<;>(try simp(disch:=omega) only[go_sem,seval,hdl,hcl,hrl,hT,hT2, *]))))
    all_goals(refine ap mn hQ ?_)
    all_goals exact⟨_,_,Wk.refl _,v_ _ hb,false,rfl,rfl,fun h=>by cases h⟩
 have hT:((40:Int)<(x.rules.length:Int))=False:=eq_false (by omega)
 have hT2:((12:Int)<(x.decls.length:Int))=False:=eq_false (by omega)
 (repeat'(first|refine Ctl ?_|((with_reducible refine j_ hK ?_);clear hK hE K E)|((with_reducible refine aj (fun h=>?_) (fun h=>?_))<;>(try(exfalso;assumption)))|((first|(with_reducible refine ae fun K E hK hE=>?_)|((with_reducible refine ao (fun b hb=>?_))))<;>(try simp(disch:=omega) only[go_sem,seval,hdl,hcl,hrl,hT,hT2, *]))))
 obtain⟨b1,hb1⟩:∃z,z=b:=⟨_,rfl⟩
 subst hb1
 have q1:(t.set b1 (.obj 26 [.lst (x.doms.map dmC) .no,.lst (x.decls.map az) .no,.lst (x.rules.map ax) .no])) b1=.obj 26 [.lst (x.doms.map dmC) .no,.lst (x.decls.map az) .no,.lst (x.rules.map ax) .no]:=q_ _ _ _
 have HFg:Hid (Fg (t.set b1 (.obj 26 [.lst (x.doms.map dmC) .no,.lst (x.decls.map az) .no,.lst (x.rules.map ax) .no])) t):=u_ (v_ _ hb)
 generalize t.set b1 (.obj 26 [.lst (x.doms.map dmC) .no,.lst (x.decls.map az) .no,.lst (x.rules.map ax) .no])=S at *
 clear hb
 refine bB (fun m env s'=>∃(i:Nat),i<=x.doms.length/\m+i=x.doms.length/\S=s'/\Hid (∀d,d∈x.doms.take i->d.size<=8)/\env 1=.ptr b1 0/\env 3=.int .i64 i) x.doms.length ?_ ?_
 ·exact⟨0,by omega,by omega,rfl,u_ (fun d hd=>by simp at hd),ab,ab⟩
 rintro m env s' ⟨i,hi,hm,he0,HD,e1,e3⟩
 subst he0
 by_cases hlt:i<x.doms.length
 ·obtain⟨d,hd⟩:=aN hlt
  have hsd:=ge hd
  have HD2:Hid (d.size<=8->∀d,d∈x.doms.take (i+1)->d.size<=8):=u_ fun h d' hd'=>by
   rw[bY hd]at hd'
   rcases l_.1 hd' with h1|h1
   ·exact HD.out d' h1
   ·rw[e_]at h1;subst h1;exact h
  obtain⟨dn,dz⟩:=d
  simp only[dmC]at hsd
  simp only at HD2
  clear hd
  by_cases h8:8<dz
  ·(repeat'(first|refine Ctl ?_|((with_reducible refine j_ hK ?_);clear hK hE K E)|((with_reducible refine aj (fun h=>?_) (fun h=>?_))<;>(try(exfalso;assumption)))|(((with_reducible refine ae fun K E hK hE=>?_))<;>(try simp(disch:=omega) only[go_sem,seval,hdl,hcl,hrl,hsd, *]))))
   all_goals(refine ap mn hQ ?_)
   all_goals exact⟨_,_,Wk.refl _,HFg.out,false,rfl,rfl,fun h=>by cases h⟩
  ·have HD3:=u_ (HD2.out (by omega))
   (repeat'(first|refine Ctl ?_|((with_reducible refine j_ hK ?_);clear hK hE K E)|((with_reducible refine aj (fun h=>?_) (fun h=>?_))<;>(try(exfalso;assumption)))|(((with_reducible refine ae fun K E hK hE=>?_))<;>(try simp(disch:=omega) only[go_sem,seval,hdl,hcl,hrl,hsd, *]))))
   all_goals exact⟨m - 1,by omega,i+1,by omega,by omega,rfl,HD3,ab,ab⟩
 obtain rfl:i=x.doms.length:=by omega
 have hdd:=HD.out
 rw[f_]at hdd
 have HDD:=u_ hdd
 clear hdd HD
 (repeat'(first|refine Ctl ?_|((with_reducible refine j_ hK ?_);clear hK hE K E)|((with_reducible refine aj (fun h=>?_) (fun h=>?_))<;>(try(exfalso;assumption)))|(((with_reducible refine ae fun K E hK hE=>?_))<;>(try simp(disch:=omega) only[go_sem,seval,hdl,hcl,hrl, *]))))
 refine bB (fun m env s'=>∃(i:Nat),i<=x.rules.length/\m+i=x.rules.length/\S=s'/\env 1=.ptr b1 0/\env 4=.int .i64 i) x.rules.length ?_ ?_
 ·exact⟨0,by omega,by omega,rfl,ab,ab⟩
 clear e1 e3 env
 rintro m env s' ⟨i,hi,hm,he0,e1,e4⟩
 subst he0
 by_cases hlt:i<x.rules.length
 ·obtain⟨r,hr⟩:=aN hlt
  have hsr:=kA hr
  have hrb:=HF5.out r (p_ hr)
  have HAT:=u_ (HX.out.2.2.2.2.2 r (p_ hr)).2.2
  obtain⟨rh,rb⟩:=r
  have hbl:(rb.map aG).length=rb.length:=by simp
  simp only[ax]at hsr
  simp only at hrb HAT
  clear hr
  (repeat'(first|refine Ctl ?_|((with_reducible refine j_ hK ?_);clear hK hE K E)|((with_reducible refine aj (fun h=>?_) (fun h=>?_))<;>(try(exfalso;assumption)))|(((with_reducible refine ae fun K E hK hE=>?_))<;>(try simp(disch:=omega) only[go_sem,seval,hdl,hcl,hrl,hsr,hbl, *]))))
  refine bB (fun m2 env s2=>∃(k n:Nat),k<=rb.length/\m2+k=rb.length/\n<=k*140737488355328/\S=s2/\env 1=.ptr b1 0/\env 4=.int .i64 i/\env 5=.int .i64 n/\env 6=.int .i64 k) rb.length ?_ ?_
  ·exact⟨0,0,by omega,by omega,by omega,rfl,ab,ab,ab,ab⟩
  clear e1 e4 env
  rintro m2 env s2 ⟨k,n,hk,hm2,hn,he0,e1,e4,e5,e6⟩
  subst he0
  by_cases hltk:k<rb.length
  ·obtain⟨a,ha⟩:=aN hltk
   have hsa:=cX ha
   have hal:=(HAT.out a (p_ ha)).2.1
   obtain⟨an,ar,ats⟩:=a
   have htl:(ats.map aC).length=ats.length:=by simp
   simp only[aG]at hsa
   simp only at hal
   clear ha
   (repeat'(first|refine Ctl ?_|((with_reducible refine j_ hK ?_);clear hK hE K E)|((with_reducible refine aj (fun h=>?_) (fun h=>?_))<;>(try(exfalso;assumption)))|(((with_reducible refine ae fun K E hK hE=>?_))<;>(try simp(disch:=omega) only[go_sem,seval,hdl,hcl,hrl,hsr,hbl,hsa,htl, *]))))
   exact⟨m2 - 1,by omega,k+1,n+ats.length,by omega,by omega,by omega,rfl,ab,ab,ab,ab⟩
  ·obtain rfl:k=rb.length:=by omega
   by_cases hb4:4<rb.length
   ·have hT4:((4:Int)<(rb.length:Int))=True:=eq_true (by omega)
    (repeat'(first|refine Ctl ?_|((with_reducible refine j_ hK ?_);clear hK hE K E)|((with_reducible refine aj (fun h=>?_) (fun h=>?_))<;>(try(exfalso;assumption)))|(((with_reducible refine ae fun K E hK hE=>?_))<;>(try simp(disch:=omega) only[go_sem,seval,hdl,hcl,hrl,hsr,hbl,hT4, *]))))
    all_goals(refine ap mn hQ ?_)
    all_goals exact⟨_,_,Wk.refl _,HFg.out,false,rfl,rfl,fun h=>by cases h⟩
   ·have hT4:((4:Int)<(rb.length:Int))=False:=eq_false (by omega)
    by_cases hn8:8<n
    ·have hT8:((8:Int)<(n:Int))=True:=eq_true (by omega)
     (repeat'(first|refine Ctl ?_|((with_reducible refine j_ hK ?_);clear hK hE K E)|((with_reducible refine aj (fun h=>?_) (fun h=>?_))<;>(try(exfalso;assumption)))|(((with_reducible refine ae fun K E hK hE=>?_))<;>(try simp(disch:=omega) only[go_sem,seval,hdl,hcl,hrl,hsr,hbl,hT4,hT8, *]))))
     all_goals(refine ap mn hQ ?_)
     all_goals exact⟨_,_,Wk.refl _,HFg.out,false,rfl,rfl,fun h=>by cases h⟩
    ·have hT8:((8:Int)<(n:Int))=False:=eq_false (by omega)
     (repeat'(first|refine Ctl ?_|((with_reducible refine j_ hK ?_);clear hK hE K E)|((with_reducible refine aj (fun h=>?_) (fun h=>?_))<;>(try(exfalso;assumption)))|(((with_reducible refine ae fun K E hK hE=>?_))<;>(try simp(disch:=omega) only[go_sem,seval,hdl,hcl,hrl,hsr,hbl,hT4,hT8, *]))))
     all_goals exact⟨m - 1,by omega,i+1,by omega,by omega,rfl,ab,ab⟩
 obtain rfl:i=x.rules.length:=by omega
 (repeat'(first|refine Ctl ?_|((with_reducible refine j_ hK ?_);clear hK hE K E)|((with_reducible refine aj (fun h=>?_) (fun h=>?_))<;>(try(exfalso;assumption)))|(((with_reducible refine ae fun K E hK hE=>?_))<;>(try simp(disch:=omega) only[go_sem,seval,hdl,hcl,hrl, *]))))
 all_goals(refine ap mn hQ ?_)
 all_goals exact⟨_,_,Wk.refl _,HFg.out,true,rfl,rfl,fun _=>HDD.out⟩
set_option maxHeartbeats 4000000 in
theorem ya (a:List Tbl)(o1 o2:Own)(ha:a.length<=1000000/\∀y,y∈a->iv y.rs)(t:St):SRet Tryz.prog 15 [.lst (a.map aX) o1,.lst (a.map aX) o2] t (.bool true) t:=by
 have hal:(a.map aX).length=a.length:=by simp
 have hal2:=ha.1
 have HA:=u_ ha.2
 clear ha
 refine aw Tryz.func15 rfl Tryz.ntmps15 rfl fun Q hQ hQe=>?_
 (repeat'(first|refine Ctl ?_|((with_reducible refine j_ hK ?_);clear hK hE K E)|((with_reducible refine aj (fun h=>?_) (fun h=>?_))<;>(try(exfalso;assumption)))|(((with_reducible refine ae fun K E hK hE=>?_))<;>(try simp(disch:=omega) only[go_sem,seval,hal, *]))))
 refine bB (fun m env s'=>∃(i:Nat),i<=a.length/\m+i=a.length/\t=s'/\env 0=.lst (a.map aX) o1/\env 1=.lst (a.map aX) o2/\env 5=.int .i64 i) a.length ?_ ?_
 ·exact⟨0,by omega,by omega,rfl,ab,ab,ab⟩
 rintro m env s' ⟨i,hi,hm,he0,e0,e1,e5⟩
 subst he0
 by_cases hlt:i<a.length
 ·obtain⟨y,hy⟩:=aN hlt
  have hsy:=dZ hy
  have hyo:=HA.out y (p_ hy)
  have w1:=fun s=>oZ y.rs y.rs .no .no hyo hyo s
  obtain⟨yn,yr⟩:=y
  simp only[aX]at hsy
  simp only[decide_true]at w1
  clear hy hyo
  (repeat'(first|refine Ctl ?_|(with_reducible first|(refine j_ hK ?_;clear hK hE K E)|(refine j_ hKh ?_;clear hKh Kh)|(refine j_ hKb (aL ?_);clear hKb Kb)|refine aq 6 [([0,1,2,3,4,5,6,7,8,9,10,11,12,13,14,15,16,17,18,19,20,21],22,[[]])] [23,24] hQe fun K E hK hE=>?_)|((with_reducible refine aj (fun h=>?_) (fun h=>?_))<;>(try(exfalso;assumption)))|(((with_reducible first|refine ae fun K E hK hE=>?_|refine ak Fu (w1 _) ?_|refine aE fun Kh hKh=>?_|refine aD fun Kh hKh=>?_|refine aM fun Kb hKb=>?_))<;>(try simp(disch:=omega) only[go_sem,seval,hal,hsy, *]))))
  all_goals exact⟨m - 1,by omega,i+1,by omega,by omega,rfl,ab,ab,ab⟩
 ·obtain rfl:i=a.length:=by omega
  (repeat'(first|refine Ctl ?_|((with_reducible refine j_ hK ?_);clear hK hE K E)|((with_reducible refine aj (fun h=>?_) (fun h=>?_))<;>(try(exfalso;assumption)))|(((with_reducible refine ae fun K E hK hE=>?_))<;>(try simp(disch:=omega) only[go_sem,seval,hal, *]))))
  all_goals(refine ap E9 hQ ?_)
  all_goals exact⟨_,_,Wk.refl _,Fg.refl _,rfl,rfl⟩
def rL (g:List Tbl):Prop:=g.length<=140737488355328/\∀y,y∈g->y.nm.length<=140737488355328/\y.rs.length<=140737488355328/\∀r,r∈y.rs->r.length<=140737488355328
def rM (g:List Tbl):Prop:=g.length<=20/\∀y,y∈g->y.rs.length<=60/\∀r,r∈y.rs->r.length<=20
set_option maxHeartbeats 8000000 in
theorem uy (g:List Tbl)(oL:Own)(hg:rL g)(t:St):SCalls Tryz.prog 11 [.lst (g.map aX) oL] t fun w u=>∃r:Bool,w=.ret (.bool r)/\u=t/\(r=true->rM g):=by
 have hgl1:(g.map aX).length=g.length:=by simp
 have hgl:=hg.1
 have HG:=u_ hg.2
 clear hg
 refine aw Tryz.func11 rfl Tryz.ntmps11 rfl fun Q hQ hQe=>?_
 (repeat'(first|refine Ctl ?_|((with_reducible refine j_ hK ?_);clear hK hE K E)|(((with_reducible refine ae fun K E hK hE=>?_))<;>(try simp(disch:=omega) only[go_sem,seval, *]))))
 refine bB (fun m env s'=>∃(i:Nat),i<=g.length/\i<=20/\m+i=20/\t=s'/\Hid (∀y,y∈g.take i->y.rs.length<=60/\∀r,r∈y.rs->r.length<=20)/\env 0=.lst (g.map aX) oL/\env 3=.int .i64 i) 20 ?_ ?_
 ·exact⟨0,by omega,by omega,by omega,rfl,u_ (fun y hy=>by simp at hy),ab,ab⟩
 rintro m env s' ⟨i,hi,hi2,hm,he0,HD,e0,e3⟩
 subst he0
 by_cases hlt:i<g.length
 ·have hltT:((i:Int)<(g.length:Int))=True:=eq_true (by omega)
  by_cases h20:i<20
  ·have h20T:((i:Int)<20)=True:=eq_true (by omega)
   obtain⟨y,hy⟩:=aN hlt
   have hsy:=dZ hy
   obtain⟨g1,g2,g3⟩:=HG.out y (p_ hy)
   have hrl:(aF y.rs).length=y.rs.length:=rowsV_len
   have HY:=u_ hy
   have HG3:=u_ g3
   obtain⟨yn,yr⟩:=y
   simp only[aX]at hsy
   simp only at g1 g2 hrl HG3
   clear hy g3
   by_cases h100:100<yn.length
   ·have hT:((100:Int)<(yn.length:Int))=True:=eq_true (by omega)
    (repeat'(first|refine Ctl ?_|((with_reducible refine j_ hK ?_);clear hK hE K E)|((with_reducible refine aj (fun h=>?_) (fun h=>?_))<;>(try(exfalso;assumption)))|(((with_reducible refine ae fun K E hK hE=>?_))<;>(try simp(disch:=omega) only[go_sem,seval,hgl1,hsy,hrl,hltT,h20T,hT, *]))))
    all_goals(refine ap pT hQ ?_)
    all_goals exact⟨_,_,Wk.refl _,Fg.refl _,false,rfl,rfl,fun h=>by cases h⟩
   ·have hT:((100:Int)<(yn.length:Int))=False:=eq_false (by omega)
    by_cases h60:60<yr.length
    ·have hT6:((60:Int)<(yr.length:Int))=True:=eq_true (by omega)
     (repeat'(first|refine Ctl ?_|((with_reducible refine j_ hK ?_);clear hK hE K E)|((with_reducible refine aj (fun h=>?_) (fun h=>?_))<;>(try(exfalso;assumption)))|(((with_reducible refine ae fun K E hK hE=>?_))<;>(try simp(disch:=omega) only[go_sem,seval,hgl1,hsy,hrl,hltT,h20T,hT,hT6, *]))))
     all_goals(refine ap pT hQ ?_)
     all_goals exact⟨_,_,Wk.refl _,Fg.refl _,false,rfl,rfl,fun h=>by cases h⟩
    ·have hT6:((60:Int)<(yr.length:Int))=False:=eq_false (by omega)
     (repeat'(first|refine Ctl ?_|((with_reducible refine j_ hK ?_);clear hK hE K E)|((with_reducible refine aj (fun h=>?_) (fun h=>?_))<;>(try(exfalso;assumption)))|(((with_reducible refine ae fun K E hK hE=>?_))<;>(try simp(disch:=omega) only[go_sem,seval,hgl1,hsy,hrl,hltT,h20T,hT,hT6, *]))))
     refine bB (fun m2 env s2=>∃(k:Nat),k<=yr.length/\m2+k=yr.length/\t=s2/\Hid (∀r,r∈yr.take k->r.length<=20)/\env 0=.lst (g.map aX) oL/\env 3=.int .i64 i/\env 4=.int .i64 k) yr.length ?_ ?_
     ·exact⟨0,by omega,by omega,rfl,u_ (fun r hr=>by simp at hr),ab,ab,ab⟩
     clear e0 e3 env
     rintro m2 env s2 ⟨k,hk,hm2,he0,HR,e0,e3,e4⟩
     subst he0
     by_cases hltk:k<yr.length
     ·obtain⟨r,hr⟩:=aN hltk
      have hsr:=dK hr
      have hrl2:=HG3.out r (p_ hr)
      have hrl3:(aB r).length=r.length:=bH
      have HR2:Hid (r.length<=20->∀r,r∈yr.take (k+1)->r.length<=20):=u_ fun h r' hr'=>by
       rw[bY hr]at hr'
       rcases l_.1 hr' with h1|h1
       ·exact HR.out r' h1
       ·rw[e_]at h1;subst h1;exact h
      clear hr
      by_cases hb:20<r.length
      ·have hTr:((20:Int)<(r.length:Int))=True:=eq_true (by omega)
       (repeat'(first|refine Ctl ?_|((with_reducible refine j_ hK ?_);clear hK hE K E)|((with_reducible refine aj (fun h=>?_) (fun h=>?_))<;>(try(exfalso;assumption)))|(((with_reducible refine ae fun K E hK hE=>?_))<;>(try simp(disch:=omega) only[go_sem,seval,hgl1,hsy,hrl,hsr,hrl3,hTr, *]))))
       all_goals(refine ap pT hQ ?_)
       all_goals exact⟨_,_,Wk.refl _,Fg.refl _,false,rfl,rfl,fun h=>by cases h⟩
      ·have hTr:((20:Int)<(r.length:Int))=False:=eq_false (by omega)
       have HR3:=u_ (HR2.out (by omega))
       (repeat'(first|refine Ctl ?_|((with_reducible refine j_ hK ?_);clear hK hE K E)|((with_reducible refine aj (fun h=>?_) (fun h=>?_))<;>(try(exfalso;assumption)))|(((with_reducible refine ae fun K E hK hE=>?_))<;>(try simp(disch:=omega) only[go_sem,seval,hgl1,hsy,hrl,hsr,hrl3,hTr, *]))))
       all_goals exact⟨m2 - 1,by omega,k+1,by omega,by omega,rfl,HR3,ab,ab,ab⟩
     ·obtain rfl:k=yr.length:=by omega
      have HD2:Hid (∀y,y∈g.take (i+1)->y.rs.length<=60/\∀r,r∈y.rs->r.length<=20):=u_ fun y hy=>by
       rw[bY HY.out]at hy
       rcases l_.1 hy with h1|h1
       ·exact HD.out y h1
       ·rw[e_]at h1
        subst h1
        exact⟨by show yr.length<=60;omega,fun r hr=>HR.out r (by rw[f_];exact hr)⟩
      (repeat'(first|refine Ctl ?_|((with_reducible refine j_ hK ?_);clear hK hE K E)|((with_reducible refine aj (fun h=>?_) (fun h=>?_))<;>(try(exfalso;assumption)))|(((with_reducible refine ae fun K E hK hE=>?_))<;>(try simp(disch:=omega) only[go_sem,seval,hgl1,hsy,hrl, *]))))
      all_goals exact⟨m - 1,by omega,i+1,by omega,by omega,by omega,rfl,HD2,ab,ab⟩
  ·have h20T:((i:Int)<20)=False:=eq_false (by omega)
   have hT:((g.length:Int)<=20)=False:=eq_false (by omega)
   (repeat'(first|refine Ctl ?_|((with_reducible refine j_ hK ?_);clear hK hE K E)|((with_reducible refine aj (fun h=>?_) (fun h=>?_))<;>(try(exfalso;assumption)))|(((with_reducible refine ae fun K E hK hE=>?_))<;>(try simp(disch:=omega) only[go_sem,seval,hgl1,hltT,h20T,hT, *]))))
   all_goals(refine ap pT hQ ?_)
   all_goals exact⟨_,_,Wk.refl _,Fg.refl _,false,rfl,rfl,fun h=>by cases h⟩
 ·have hltT:((i:Int)<(g.length:Int))=False:=eq_false (by omega)
  have hT:((g.length:Int)<=20)=True:=eq_true (by omega)
  have HS:Hid (rM g):=u_ ⟨by omega,fun y hy=>HD.out y (by rw[B_ (by omega)];exact hy)⟩
  (repeat'(first|refine Ctl ?_|((with_reducible refine j_ hK ?_);clear hK hE K E)|((with_reducible refine aj (fun h=>?_) (fun h=>?_))<;>(try(exfalso;assumption)))|(((with_reducible refine ae fun K E hK hE=>?_))<;>(try simp(disch:=omega) only[go_sem,seval,hgl1,hltT,hT, *]))))
  all_goals(refine ap pT hQ ?_)
  all_goals exact⟨_,_,Wk.refl _,Fg.refl _,true,rfl,rfl,fun _=>HS.out⟩
end Go.Proofs.YteldpmgepfaiiaaGreatDoor
