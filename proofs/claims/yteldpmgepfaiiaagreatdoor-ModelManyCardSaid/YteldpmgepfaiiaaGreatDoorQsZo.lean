/- Walks of functions, and plain facts. Conditions: those in the statements. -/
import Derived.Test.YteldpmgepfaiiaaGreatDoorQsZn
set_option linter.unusedSimpArgs false
set_option linter.unusedVariables false
set_option maxRecDepth 100000
namespace Go.Proofs.YteldpmgepfaiiaaGreatDoor
open Go.RowKit
def jL (n:Int):Trm:=⟨false,[],n⟩
def gS (nm:List UInt8)(row:List Int):Rul:=⟨⟨false,nm,row.map jL⟩,[]⟩
def xB (t:Tbl):List Rul:=t.rs.map (gS t.nm)
def eO (g:List Tbl):List Rul:=g.flatMap xB
def gvP (x:Pgm)(g:List Tbl):Pgm:=⟨x.doms,x.decls,x.rules++eO g⟩
theorem jA {g:List Tbl}{r:Rul}:r∈eO g↔∃t row,t∈g/\row∈t.rs/\r=gS t.nm row:=by
 unfold eO xB
 rw[List.mem_flatMap]
 constructor
 ·rintro⟨t,h1,h2⟩
  obtain⟨row,h3,rfl⟩:=E_.1 h2
  exact⟨t,row,h1,h3,rfl⟩
 ·rintro⟨t,row,h1,h2,rfl⟩
  exact⟨t,h1,E_.2 ⟨row,h2,rfl⟩⟩
theorem rt {x:Pgm}{g:List Tbl}(hg:cQ x [] g=true){t:Tbl}{row:List Int}(ht:t∈g)(hr:row∈t.rs):∃k d,cO x.decls t.nm=some k/\x.decls[k]?=some d/\row.length=d.doms.length/\fw x.doms d.doms row=true:=by
 obtain⟨k,d,h1,h2,_,h4⟩:=dD hg t ht
 obtain⟨h5,h6⟩:=jz h4 row hr
 exact⟨k,d,h1,h2,h5,h6⟩
theorem zp {x:Pgm}{g:List Tbl}(hg:cQ x [] g=true){r:Rul}(h:r∈eO g):∃Y,bJ x r=.ok Y:=by
 obtain⟨t,row,ht,hr,rfl⟩:=jA.1 h
 obtain⟨k,d,h1,h2,h3,h4⟩:=rt hg ht hr
 have hocc:∀o,o∈jK x (gS t.nm row).head->o.1.var=false/\o.1.n<da x.doms o.2:=fun o ho=>by
  unfold jK Jm gS at ho
  simp only[h1,h2]at ho
  obtain⟨j,hj⟩:=h_.1 ho
  rw[List.getElem?_zip_eq_some]at hj
  obtain⟨j1,j2⟩:=hj
  rw[c_]at j1
  obtain⟨n,j3,j4⟩:=Option.map_eq_some_iff.1 j1
  have:=iS h4 h3 j _ _ j2 j3
  rw[<- j4]
  exact⟨rfl,this.2⟩
 refine pE.2 ⟨⟨k,d,h1,h2,by simpa [gS]using h3⟩,fun a ha=>(by cases ha),⟨?_,rfl⟩,⟨fun _=>[],⟨fun o ho hv=>?_,fun o ho hv=>?_⟩⟩,[],List.nodup_nil,by simp,fun v=>?_⟩
 ·unfold cM
  simp[gS,jL]
 ·exact(hocc o (by simpa [gS]using ho)).2
 ·have:=(hocc o (by simpa [gS]using ho)).1
  rw[hv]at this;cases this
 ·constructor
  ·intro h;cases h
  ·rintro⟨o,ho,hv,_⟩
   have:=(hocc o (by simpa [gS]using ho)).1
   rw[hv]at this;cases this
theorem ub {p:Pgm}{m:List Rul}(hm:∀r,r∈m->∃Y,bJ p r=.ok Y):∀(l:List Rul) (k:Nat),em p k (l++m)=em p k l
 |[],k=>lM m k hm
 |a::l,k=>by
  simp only[List.cons_append,em]
  cases bJ p a with
  |error e=>rfl
  |ok Y=>exact ub hm l (k+1)
theorem qv {p q:Pgm}(h1:q.doms=p.doms)(h2:q.decls=p.decls):∀(l:List Rul) (k:Nat),em q k l=em p k l
 |[],k=>rfl
 |a::l,k=>by
  simp only[em]
  rw[mc h1 h2]
  cases bJ p a with
  |error e=>rfl
  |ok Y=>exact qv h1 h2 l (k+1)
theorem Jg {x:Pgm}{g:List Tbl}(e:Edg):e∈eJ (gvP x g)↔e∈eJ x:=by
 constructor
 ·intro h
  obtain⟨r,hr,he⟩:=ot h
  rw[lJ (p:=x) (q:=gvP x g) rfl]at he
  rcases l_.1 hr with hr|hr
  ·exact rA hr he
  ·obtain⟨t,row,_,_,rfl⟩:=jA.1 hr
   simp[gd,gS]at he
 ·intro h
  obtain⟨r,hr,he⟩:=ot h
  refine rA (r:=r) (List.mem_append_left _ hr) ?_
  rw[lJ (p:=x) (q:=gvP x g) rfl]
  exact he
structure GvFit (x:Pgm) (g:List Tbl):Prop where
 tb:cQ x [] g=true
 nm:∀t,t∈g->t.nm≠[100,111,109]/\t.nm≠[114,101,108]
 len:(x.rules++eO g).length<=64
 ds:∀d,d∈x.doms->d.size<=256
theorem BE {x:Pgm}{g:List Tbl}(h:GvFit x g)(hp:cm x=true){r:Rul}(hr:r∈eO g):dJ r=true:=by
 obtain⟨t,row,ht,hrow,rfl⟩:=jA.1 hr
 obtain⟨k,d,h1,h2,h3,h4⟩:=rt h.tb ht hrow
 simp only[cm,Bool.and_eq_true,decide_eq_true_eq,List.all_eq_true]at hp
 have hd:=hp.1.2 d (p_ h2)
 simp only[eS,Bool.and_eq_true,decide_eq_true_eq]at hd
 have hnm:d.name=t.nm:=by
  have:=cI (show ixT t.nm (x.decls.map (·.name))=some k from h1)
  rw[c_,h2]at this
  simpa using this
 have hts:∀m,m∈row.map jL->fN m=true:=fun m hm=>by
  obtain⟨n,hn,rfl⟩:=E_.1 hm
  obtain⟨j,hj⟩:=h_.1 hn
  have hlt:=(n_.1 hj).1
  obtain⟨dd,hdd⟩:=aN (l:=d.doms) (i:=j) (by omega)
  have:=iS h4 h3 j dd n hdd hj
  have h5:=kW (n:=dd) h.ds (by decide)
  simp[fN,jL]
  exact⟨decide_eq_true (by omega),decide_eq_true (by omega)⟩
 have hat:dh (gS t.nm row).head=true:=by
  simp only[dh,gS,Bool.and_eq_true,decide_eq_true_eq,List.all_eq_true,a_]
  refine⟨⟨⟨hts,?_⟩,by omega⟩,by omega⟩
  rw[<- hnm];exact hd.1.1.1
 have hn:=h.nm t ht
 simp only[dJ,Bool.and_eq_true,decide_eq_true_eq,hat,true_and]
 exact⟨⟨⟨⟨rfl,hn.1⟩,hn.2⟩,by simp[gS]⟩,rfl⟩
theorem Dw {x:Pgm}{g:List Tbl}(h:GvFit x g):cm (gvP x g)=cm x:=by
 cases hp:cm x with
 |true=>
  have hp0:=hp
  simp only[cm,Bool.and_eq_true,decide_eq_true_eq,List.all_eq_true]at hp ⊢
  obtain⟨⟨⟨⟨⟨h1,h2⟩,h3⟩,h4⟩,h5⟩,h6⟩:=hp
  refine⟨⟨⟨⟨⟨h1,h2⟩,h.len⟩,h4⟩,h5⟩,fun r hr=>?_⟩
  rcases l_.1 hr with hr|hr
  ·exact h6 r hr
  ·exact BE h hp0 hr
 |false=>
  cases hq:cm (gvP x g)with
  |false=>rfl
  |true=>
   exfalso
   have:cm x=true:=by
    simp only[cm,Bool.and_eq_true,decide_eq_true_eq,List.all_eq_true]at hq ⊢
    obtain⟨⟨⟨⟨⟨h1,h2⟩,h3⟩,h4⟩,h5⟩,h6⟩:=hq
    have h7:(x.rules++eO g).length<=64:=h3
    rw[d_]at h7
    exact⟨⟨⟨⟨⟨h1,h2⟩,by omega⟩,h4⟩,h5⟩,fun r hr=>h6 r (List.mem_append_left _ hr)⟩
   rw[hp]at this;cases this
theorem nv {x:Pgm}{g:List Tbl}(h:GvFit x g):soundP (gvP x g)=soundP x:=by
 have h1:cp (gvP x g)=cp x:=by
  unfold cp
  rw[Dw h]
  rfl
 have h2:em (gvP x g) 0 (gvP x g).rules=em x 0 x.rules:=by
  rw[qv (p:=x) (q:=gvP x g) rfl rfl]
  exact ub (fun r hr=>zp h.tb hr) _ _
 have h3:stgP (gvP x g)=stgP x:=by
  unfold stgP
  rw[sl Jg]
  rfl
 unfold soundP
 rw[h1,h2,h3]
theorem FN {x:Pgm}{g:List Tbl}(h:GvFit x g):stN (gvP x g)=stN x:=by
 funext n
 unfold stN ixR
 rw[nv h]
 rfl
theorem FK {x:Pgm}{g:List Tbl}(hg:cQ x [] g=true){t:Tbl}(ht:t∈g){row:List Int}(hr:row∈t.rs):cP g t.nm row:=by
 obtain⟨j,hj⟩:=h_.1 ht
 have hnd:=nq hg
 unfold cP aW
 cases hf:g.find? (fun u=>decide (u.nm=t.nm))with
 |none=>
  rw[List.find?_eq_none]at hf
  exact absurd (decide_eq_true rfl) (hf t ht)
 |some u=>
  have h1:u.nm=t.nm:=by simpa using List.find?_some hf
  obtain⟨i,hi⟩:=h_.1 (List.mem_of_find?_eq_some hf)
  have e1:(g.map (·.nm))[i]?=some t.nm:=by rw[c_,hi];simp[h1]
  have e2:(g.map (·.nm))[j]?=some t.nm:=by rw[c_,hj];rfl
  have hij:i=j:=(List.getElem?_inj (n_.1 e1).1 hnd).1 (e1.trans e2.symm)
  subst hij
  rw[hi]at hj
  injection hj with hj
  rw[hj]
  exact hr
theorem xu (row:List Int)(gg:Sig):ei gg (row.map jL)=row:=by
 unfold ei
 rw[List.map_map]
 have:((fun t:Trm=>if t.var=true then gg t.nm else t.n) ∘ jL)=id:=by funext n;simp[jL]
 rw[this,List.map_id]
theorem PgmOk.gv {x:Pgm}{g:List Tbl}(h:PgmOk x)(hg:GvFit x g)(hr:∀t,t∈g->t.nm.length<=140737488355328/\∀r,r∈t.rs->r.length<=140737488355328):PgmOk (gvP x g):=by
 obtain⟨h1,h2,h3,h4,h5,h6⟩:=h
 have hl:(x.rules++eO g).length<=64:=hg.len
 refine⟨h1,h2,by show (x.rules++eO g).length<=_;omega,h4,h5,fun y hy=>?_⟩
 rcases l_.1 hy with hy|hy
 ·exact h6 y hy
 ·obtain⟨t,row,ht,hrow,rfl⟩:=jA.1 hy
  obtain⟨k,d,k1,k2,k3,k4⟩:=rt hg.tb ht hrow
  refine⟨⟨(hr t ht).1,by simpa [gS]using (hr t ht).2 row hrow,fun m hm=>?_⟩,by simp[gS],fun a ha=>by cases ha⟩
  obtain⟨n,hn,rfl⟩:=E_.1 hm
  obtain⟨j,hj⟩:=h_.1 hn
  have hlt:=(n_.1 hj).1
  obtain⟨dd,hdd⟩:=aN (l:=d.doms) (i:=j) (by omega)
  have h7:=iS k4 k3 j dd n hdd hj
  have h8:=kW (n:=dd) hg.ds (by decide)
  simp only[jL]
  exact⟨by simp,by omega,by omega⟩
end Go.Proofs.YteldpmgepfaiiaaGreatDoor
