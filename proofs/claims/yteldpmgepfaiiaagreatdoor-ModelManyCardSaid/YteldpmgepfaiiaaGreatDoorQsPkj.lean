/- Walks of functions, and plain facts. Conditions: those in the statements. -/
import Derived.Test.YteldpmgepfaiiaaGreatDoorQsGpj
import Derived.Test.YteldpmgepfaiiaaGreatDoorQsLexj
import Derived.Test.YteldpmgepfaiiaaGreatDoorQsSf
import Derived.Test.YteldpmgepfaiiaaGreatDoorQsShelfN
import Derived.Lib.SmallJoins
set_option linter.unusedSimpArgs false
set_option linter.unusedVariables false
namespace Go.Proofs.YteldpmgepfaiiaaGreatDoor
open Go.RowKit
def GS (s s':St):Prop:=∀(w0:World) (G:Gh) (w:World),Sim w0 G w s->Sim w0 G w s'
theorem GS.refl (s:St):GS s s:=fun _ _ _ h=>h
theorem GS.trans {a b c:St}(h:GS a b)(k:GS b c):GS a c:=fun w0 G w x=>k w0 G w (h w0 G w x)
theorem GS.of_fg {s s':St}(h:Fg s s'):GS s s':=fun _ _ _ x=>x.forget h
section
variable {w0 w : World} {G : Gh} {s : St} {b : Nat} {T : TypeId} {xs : List VV} {rs rs' : List (Nat × TypeId × Nat)}
theorem GS.topk (hb:s b=.obj T xs):GS s (s.set b (.pk T xs [])):=by
 intro w0 G w h
 have hob:=h.ok b
 rw[hb]at hob
 refine⟨h.below,h.K,h.cap,fun x=>?_,h.gl,?_⟩
 ·by_cases hx:x=b
  ·subst hx;rw[q_];exact hob
  ·rw[k_ _ _ hx];exact h.ok x
 ·obtain⟨m,h1,h2,h3⟩:=h.rows
  refine⟨m,h1,fun b' i g hm=>⟨?_,(h2 b' i g hm).2⟩,fun b' T' xs' rs' i T2 sz hx hr=>?_⟩
  ·rw[k_ _ _ (by rintro rfl;have:=(h2 b' i _ hm).1;rw[hb]at this;cases this)]
   exact(h2 b' i g hm).1
  ·by_cases hxb:b'=b
   ·subst hxb
    rw[q_]at hx
    injection hx with e1 e2 e3
    subst e3
    cases hr
   ·rw[k_ _ _ hxb]at hx
    exact h3 b' T' xs' rs' i T2 sz hx hr
theorem fh {α:Type}{xs:List α}{i:Nat}{x y:α}(h:xs[i]?=some x):(xs.set i y)[i]?=some y:=by
 have:=(n_.mp h).1
 simp[this]
theorem GS.pack {i:Nat}{l:List (List VV)}{o:Own}{T':TypeId}{sz:Nat}(hb:s b=.pk T xs rs)(hi:xs[i]?=some (.lst l o))(ho:eB s o T' sz l.length)
  (hrs:∀r,r∈rs'->r=(i,T',sz)\/(r∈rs/\r.1≠i)):GS s ((s.disown o).set b (.pk T (xs.set i (.lst l .no)) rs')):=by
 intro w0 G w h
 have hob:=h.ok b
 rw[hb]at hob
 obtain⟨hB,hn,c,hc,hsz,hx⟩:=hob
 obtain⟨m,h1,h2,h3⟩:=h.rows
 obtain⟨ho1,v,hv,hR⟩:=hx i _ hi
 have hkey:∀x,x≠b->∀c,CellOk w0.heap.size G w x c->CellOk w0.heap.size G w x c:=fun _ _ _ h=>h
 have hnb:ay o b:=by
  cases o with
  |at_ g=>rintro rfl;simp only[eB]at ho;rw[hb]at ho;cases ho
  |_=>trivial
 have hdis:∀x,x≠b->(s.disown o) x=s x\/(s.disown o) x=.free:=fun x _=>by
  cases o with
  |at_ g=>
   simp only[St.disown,St.set]
   by_cases hg:x=g<;>simp[hg]
  |_=>exact .inl rfl
 have hcell:∀j x,(xs.set i (.lst l .no))[j]?=some x->x.one=true/\∃v,c[j]?=some v/\R G v x:=fun j x hj=>by
  by_cases hji:j=i
  ·subst hji
   rw[fh hi]at hj
   injection hj with hj
   subst hj
   exact⟨rfl,v,hv,hR.unown⟩
  ·rw[s_ (Ne.symm hji)]at hj
   exact hx j x hj
 have hmain:∃m':Nat->Nat->Option Nat,
   (∀b i b' i' g,m' b i=some g->m' b' i'=some g->b=b'/\i=i') /\
   (∀b' i' g,m' b' i'=some g->((s.disown o).set b (.pk T (xs.set i (.lst l .no)) rs')) g=.free/\g<w.heap.size) /\
   (∀b' i',(b'≠b\/i'≠i)->m' b' i'=m b' i')/\Fz w0.heap.size G w m' b T (xs.set i (.lst l .no)) i T' sz:=by
  cases o with
  |no=>exact ho.elim
  |full=>
   have hl:l=[]:=t_ ho
   subst hl
   refine⟨m,h1,fun b' i' g hm=>⟨?_,(h2 b' i' g hm).2⟩,fun _ _ _=>rfl,c,[],hc,fh hi,.inl ⟨rfl,?_⟩⟩
   ·have:=(h2 b' i' g hm).1
    rw[k_ _ _ (by rintro rfl;rw[hb]at this;cases this)]
    exact this
   ·rw[hv]
    generalize hq:VV.lst [] .full=q at hR
    cases hR with
    |emp a cap o ho'=>
     injection hq with _ hq;subst hq
     rcases ho' with e|⟨_,rfl,rfl⟩
     ·cases e
     ·rfl
    |lst b' off len cap sz' xs' o f hl hc' hz h1' hK hR' ho'=>
     injection hq with hq1 hq2;subst hq1;subst hq2
     rcases ho' with e|⟨_,e1,e2⟩|⟨e,_⟩
     ·cases e
     ·simp at hl;omega
     ·cases e
    |_=>cases hq
  |at_ g=>
   have hgv:s g=.vec T' sz l.length:=ho
   have hgb:g≠b:=fun e=>(hnb:¬ b=g) e.symm
   refine⟨fun b' i'=>if b'=b/\i'=i then some g else m b' i',fun b1 i1 b2 i2 g' e1 e2=>?_,fun b' i' g' hm=>?_,fun b' i' hne=>?_,c,l,hc,fh hi,.inr ?_⟩
   ·by_cases hA:b1=b/\i1=i
    ·by_cases hB':b2=b/\i2=i
     ·exact⟨hA.1.trans hB'.1.symm,hA.2.trans hB'.2.symm⟩
     ·simp only[if_pos hA,if_neg hB']at e1 e2
      injection e1 with e1;subst e1
      have:=(h2 _ _ _ e2).1;rw[hgv]at this;cases this
    ·by_cases hB':b2=b/\i2=i
     ·simp only[if_neg hA,if_pos hB']at e1 e2
      injection e2 with e2;subst e2
      have:=(h2 _ _ _ e1).1;rw[hgv]at this;cases this
     ·simp only[if_neg hA,if_neg hB']at e1 e2
      exact h1 _ _ _ _ _ e1 e2
   ·by_cases hA:b'=b/\i'=i
    ·simp only[if_pos hA]at hm
     injection hm with hm;subst hm
     rw[k_ _ _ hgb]
     refine⟨by simp[St.disown,St.set],h.lt (by rw[hgv];simp)⟩
    ·simp only[if_neg hA]at hm
     obtain⟨a1,a2⟩:=h2 _ _ _ hm
     refine⟨?_,a2⟩
     rw[k_ _ _ (by rintro rfl;rw[hb]at a1;cases a1)]
     simp only[St.disown,St.set]
     by_cases hgg:g'=g
     ·simp[hgg]
     ·simp[hgg,a1]
   ·have:¬ (b'=b/\i'=i):=by rintro⟨e1,e2⟩;rcases hne with h|h;exact h e1;exact h e2
    simp only[if_neg this]
   ·have hvec:=h.ok g
    rw[hgv]at hvec
    generalize hq:VV.lst l (.at_ g)=q at hR
    cases hR with
    |emp a cap o ho'=>
     injection hq with _ hq;subst hq
     rcases ho' with e|⟨e,_⟩<;>cases e
    |lst b' off len cap sz' xs' o f hl hc' hz h1' hK hR' ho'=>
     injection hq with hq1 hq2;subst hq1;subst hq2
     rcases ho' with e|⟨e,_⟩|⟨e,e1,e2⟩
     ·cases e
     ·cases e
     ·injection e with e
      subst e;subst e1
      subst hl
      exact⟨g,cap,by simp,hv,.lst g 0 _ cap sz' l (.at_ g) f rfl hc' hz h1' hK hR' (.inr (.inr ⟨rfl,rfl,e2⟩)),hvec⟩
    |_=>cases hq
 obtain⟨m',n1,n2,n3,n4⟩:=hmain
 refine⟨h.below,h.K,h.cap,fun x=>?_,h.gl,m',n1,n2,fun b' T2 xs2 rs2 j T3 sz3 hb' hr=>?_⟩
 ·by_cases hxb:x=b
  ·subst hxb
   rw[q_]
   exact⟨hB,hn,c,hc,by rw[hsz,List.length_set],hcell⟩
  ·rw[k_ _ _ hxb]
   rcases hdis x hxb with e|e
   ·rw[e];exact h.ok x
   ·rw[e];trivial
 ·by_cases hxb:b'=b
  ·subst hxb
   rw[q_]at hb'
   injection hb' with e1 e2 e3
   subst e1;subst e2;subst e3
   rcases hrs _ hr with e|⟨hr1,hne⟩
   ·injection e with e1 e2;injection e2 with e2 e3
    subst e1;subst e2;subst e3
    exact n4
   ·obtain⟨c',l',d1,d2,d3⟩:=h3 _ _ _ _ _ _ _ hb hr1
    exact⟨c',l',d1,by rw[s_ (Ne.symm hne)];exact d2,by rw[n3 b' j (.inr hne)];exact d3⟩
  ·rw[k_ _ _ hxb]at hb'
   have hb2:s b'=.pk T2 xs2 rs2:=by
    rcases hdis b' hxb with e|e
    ·rw[<- e];exact hb'
    ·rw[e]at hb';cases hb'
   obtain⟨c',l',d1,d2,d3⟩:=h3 _ _ _ _ _ _ _ hb2 hr
   exact⟨c',l',d1,d2,by rw[n3 b' j (.inl hxb)];exact d3⟩
theorem Sim.unpack (h:Sim w0 G w s){i:Nat}{l:List (List VV)}{T':TypeId}{sz:Nat}(hb:s b=.pk T xs rs)(hi:xs[i]?=some (.lst l .no))(hr:(i,T',sz)∈rs)
  (hrs:∀r,r∈rs'->r∈rs/\r.1≠i):∃o,OwnOk s o l.length/\ay o b/\Sim w0 G w ((s.own o T' sz l.length).set b (.pk T (xs.set i (.lst l o)) rs')):=by
 have hob:=h.ok b
 rw[hb]at hob
 obtain⟨hB,hn,c,hc,hsz,hx⟩:=hob
 obtain⟨m,h1,h2,h3⟩:=h.rows
 obtain⟨c',l',d1,d2,d3⟩:=h3 _ _ _ _ _ _ _ hb hr
 rw[hc]at d1
 injection d1 with d1;injection d1 with d1;subst d1
 rw[hi]at d2
 injection d2 with d2;injection d2 with d2;subst d2
 have hcell:∀o v,c[i]?=some v->R G v (.lst l o)->∀j x,(xs.set i (.lst l o))[j]?=some x->x.one=true/\∃v,c[j]?=some v/\R G v x:=fun o v hv hR j x hj=>by
  by_cases hji:j=i
  ·subst hji
   rw[fh hi]at hj
   injection hj with hj
   subst hj
   exact⟨rfl,v,hv,hR⟩
  ·rw[s_ (Ne.symm hji)]at hj
   exact hx j x hj
 rcases d3 with ⟨hl,hv⟩|⟨g,cap,hm,hv,hR,hvec⟩
 ·subst hl
  refine⟨.full,rfl,trivial,h.below,h.K,h.cap,fun x=>?_,h.gl,m,h1,fun b' i' g hm=>⟨?_,(h2 b' i' g hm).2⟩,fun b' T2 xs2 rs2 j T3 sz3 hb' hr'=>?_⟩
  ·by_cases hxb:x=b
   ·subst hxb
    rw[q_]
    exact⟨hB,hn,c,hc,by rw[hsz,List.length_set],hcell .full _ hv (.emp _ _ _ (.inr ⟨rfl,rfl,rfl⟩))⟩
   ·rw[k_ _ _ hxb];exact h.ok x
  ·have:=(h2 b' i' g hm).1
   rw[k_ _ _ (by rintro rfl;rw[hb]at this;cases this)]
   exact this
  ·by_cases hxb:b'=b
   ·subst hxb
    rw[q_]at hb'
    injection hb' with e1 e2 e3
    subst e1;subst e2;subst e3
    obtain⟨hr1,hne⟩:=hrs _ hr'
    obtain⟨c',l',d1,d2,d3⟩:=h3 _ _ _ _ _ _ _ hb hr1
    exact⟨c',l',d1,by rw[s_ (Ne.symm hne)];exact d2,d3⟩
   ·rw[k_ _ _ hxb]at hb'
    exact h3 _ _ _ _ _ _ _ hb' hr'
 ·obtain⟨hgf,hgl⟩:=h2 _ _ _ hm
  have hgb:g≠b:=by rintro rfl;rw[hb]at hgf;cases hgf
  refine⟨.at_ g,hgf,fun e=>hgb e.symm,h.below,h.K,h.cap,fun x=>?_,h.gl,fun b' i'=>if b'=b/\i'=i then none else m b' i',fun b1 i1 b2 i2 g' e1 e2=>?_,fun b' i' g' hm'=>?_,fun b' T2 xs2 rs2 j T3 sz3 hb' hr'=>?_⟩
  ·by_cases hxb:x=b
   ·subst hxb
    rw[q_]
    exact⟨hB,hn,c,hc,by rw[hsz,List.length_set],hcell _ _ hv hR⟩
   ·rw[k_ _ _ hxb]
    simp only[St.own,St.set]
    by_cases hxg:x=g
    ·subst hxg;simp only[if_true];exact hvec
    ·simp only[if_neg hxg];exact h.ok x
  ·by_cases hA:b1=b/\i1=i
   ·simp only[if_pos hA]at e1;cases e1
   ·by_cases hB':b2=b/\i2=i
    ·simp only[if_pos hB']at e2;cases e2
    ·simp only[if_neg hA,if_neg hB']at e1 e2
     exact h1 _ _ _ _ _ e1 e2
  ·by_cases hA:b'=b/\i'=i
   ·simp only[if_pos hA]at hm';cases hm'
   ·simp only[if_neg hA]at hm'
    obtain⟨a1,a2⟩:=h2 _ _ _ hm'
    refine⟨?_,a2⟩
    rw[k_ _ _ (by rintro rfl;rw[hb]at a1;cases a1)]
    simp only[St.own,St.set]
    rw[if_neg]
    ·exact a1
    ·rintro rfl
     exact hA (h1 _ _ _ _ _ hm' hm)
  ·by_cases hxb:b'=b
   ·subst hxb
    rw[q_]at hb'
    injection hb' with e1 e2 e3
    subst e1;subst e2;subst e3
    obtain⟨hr1,hne⟩:=hrs _ hr'
    obtain⟨c',l',d1,d2,d3⟩:=h3 _ _ _ _ _ _ _ hb hr1
    refine⟨c',l',d1,by rw[s_ (Ne.symm hne)];exact d2,?_⟩
    have hh:(if b'=b'/\j=i then none else m b' j)=m b' j:=if_neg (fun hh=>hne hh.2)
    rcases d3 with d3|⟨g1,cap1,d3,d4⟩
    ·exact .inl d3
    ·exact .inr ⟨g1,cap1,hh.trans d3,d4⟩
   ·rw[k_ _ _ hxb]at hb'
    have hb2:s b'=.pk T2 xs2 rs2:=by
     simp only[St.own,St.set]at hb'
     by_cases hxg:b'=g
     ·subst hxg;simp at hb'
     ·simpa only[if_neg hxg]using hb'
    obtain⟨c',l',d1,d2,d3⟩:=h3 _ _ _ _ _ _ _ hb2 hr'
    refine⟨c',l',d1,d2,?_⟩
    simp only[if_neg (fun hh:b'=b/\j=i=>hxb hh.1)]
    exact d3
theorem R.wkrow {v:Value}{l l':List (List VV)}{o:Own}(hl:l'.length=l.length)(hw:∀(i:Nat) (x':List VV),l'[i]?=some x'->∃x,l[i]?=some x/\WkL x x')(h:R G v (.lst l o)):R G v (.lst l' o):=by
 generalize hq:VV.lst l o=q at h
 cases h with
 |emp a cap o2 ho=>
  injection hq with hq1 hq2;subst hq1;subst hq2
  obtain rfl:l'=[]:=t_ hl
  exact .emp _ _ _ ho
 |lst b' off len cap sz' xs' o f hl2 hc' hz h1' hK hR' ho'=>
  injection hq with hq1 hq2;subst hq1;subst hq2
  refine .lst b' off len cap sz' l' _ f (hl.trans hl2) hc' (fun x hx=>?_) (fun x hx y hy=>?_) hK (fun i j x y hx hy=>?_) ho'
  ·obtain⟨i,hi⟩:=List.getElem?_of_mem hx
   obtain⟨x0,h0,h2⟩:=hw i x hi
   rw[<- hz x0 (p_ h0),h2.len]
  ·obtain⟨i,hi⟩:=List.getElem?_of_mem hx
   obtain⟨j,hj⟩:=List.getElem?_of_mem hy
   obtain⟨x0,h0,h2⟩:=hw i x hi
   obtain⟨y0,h3,_,h4⟩:=h2.get j y hj
   exact h4 (h1' x0 (p_ h0) y0 (p_ h3))
  ·obtain⟨x0,h0,h2⟩:=hw i x hx
   obtain⟨y0,h3,h4,_⟩:=h2.get j y hy
   exact h4 _ _ (hR' i j x0 y0 h0 h3)
 |_=>cases hq
end
section
variable {P : Program} {N : Nat} {D : List Deferred} {k : List Itm} {Q : Pst} {env : Env} {s : St} {c : Code}
theorem dw {o:Own}{n b:Nat}{T:TypeId}{xs:List VV}{rs:List (Nat×TypeId×Nat)}:OwnOk (s.set b (.pk T xs rs)) o n=(ay o b/\OwnOk s o n):=by
 cases o with
 |at_ x=>
  simp only[OwnOk,ay,St.set]
  by_cases h:x=b
  ·simp[h]
  ·have h':¬ b=x:=fun e=>h e.symm
   simp[h,h']
 |_=>simp[OwnOk,ay]
theorem pc {s':St}(hg:GS s s')(h:Kp P N D (.code c::k) Q .norm env s'):Kp P N D (.code c::k) Q .norm env s:=
 fun w0 G w a hfr hD hS=>h w0 G w a hfr hD (hg _ _ _ hS)
theorem lj (b i:Nat){T:TypeId}{xs:List VV}{rs:List (Nat×TypeId×Nat)}{l:List (List VV)}{T':TypeId}{sz:Nat}(rs':List (Nat×TypeId×Nat))
  (hb:s b=.pk T xs rs) (hi:xs[i]?=some (.lst l .no)) (hr:(i,T',sz)∈rs) (hrs:∀r,r∈rs'->r∈rs/\r.1≠i)
  (h:∀o,OwnOk s o l.length->ay o b->Kp P N D (.code c::k) Q .norm env ((s.own o T' sz l.length).set b (.pk T (xs.set i (.lst l o)) rs'))):Kp P N D (.code c::k) Q .norm env s:=
 fun w0 G w a hfr hD hS=>let ⟨o,h1,h2,h3⟩:=hS.unpack hb hi hr hrs;h o h1 h2 w0 G w a hfr hD h3
theorem SCalls.gs {f:FuncId}{xs:List VV}{Q:SEnd->St->Prop}(h:SCalls P f xs s fun e t=>∃t',GS t t'/\Q e t'):SCalls P f xs s Q:=by
 intro w0 G w vs hS hR
 refine(h w0 G w vs hS hR).mono ?_
 rintro e w' ⟨G',s',x,hG,hS',hE,t',hg,hq⟩
 exact⟨G',t',x,hG,hg _ _ _ hS',hE,hq⟩
theorem ef (I:Nat->Env->St->Prop)(n:Nat)(h0:∃s0,GS s s0/\I n env s0)
  (hr:∀n env s,I n env s->Kp P N D (.code c::.back (fun env' s'=>∃s'',GS s' s''/\∃m,m<n/\I m env' s'')::k) Q .norm env s) :
  Kp P N D (.code (.loop c)::k) Q .norm env s:=by
 obtain⟨s0,hf,h0⟩:=h0
 refine pc hf ?_
 refine bB (fun n env s'=>∃s'',GS s' s''/\I n env s'') n ⟨s0,GS.refl _,h0⟩ ?_
 rintro n env s' ⟨s'',hf,hI⟩
 refine pc hf ?_
 refine iw ?_ (hr n env s'' hI)
 rintro env s ⟨s3,h1,m,hm,h2⟩
 exact⟨m,hm,s3,h1,h2⟩
end
theorem pj {s:St}{b:Nat}(h:s b=.free):s.set b .free=s:=x_ s b .free h
theorem yS {s:St}{b b':Nat}(h:b'=b\/s b'=.free):(s.set b .free) b'=.free:=by
 by_cases e:b'=b
 ·subst e;exact q_ _ _ _
 ·rw[k_ _ _ e];rcases h with h|h
  ·exact absurd h e
  ·exact h
section
variable {k : VV -> St -> Prop} {e : TypeId} {q : QI} {b n : Nat} {xs : List VV} {ys : List (List VV)} {s S' : St}
theorem vX (h:∀b',S' b'=.free->k (.mrw b' (n+ys.length)) (S'.set b' (.row e q.sz (xs++ys.flatten))))
  (hb:s b=.row e q.sz xs:=by((try simp(disch:=first|assumption|omega) only[go_sem,seval, *]);rfl))
  (hl:xs.length=n*q.sz:=by first|assumption|omega|((try simp only[go_sem,a_, *]);first|rfl|omega))
  (hS:s.set b .free=S':=by((try simp(disch:=first|assumption|omega) only[go_sem,seval,pj, *]);rfl))
  (h1:(n+ys.length)*q.bt<=140737488355328:=by((try simp only[go_sem, *]);omega))
  (h2:n+ys.length<=9223372036854775807:=by((try simp only[go_sem, *]);omega))
  (hy:∀y,y∈ys->y.length=q.sz:=by first|assumption|(intro y hy;simp only[e_]at hy;subst hy;first|rfl|(simp only[go_sem];done)|(simp;done)))
  (hz:q.zok=true:=by rfl):iK k e q b n ys s:=
 ⟨xs,hb,hl,h1,h2,hy,hz,fun b' hb'=>by rw[hS];exact h b' (hS ▸ yS hb')⟩
theorem oX (h:∀b',s b'=.free->k (.mrw b' ys.length) (s.set b' (.row e q.sz ys.flatten)))
  (h0:ys≠[]:=by first|assumption|simp)
  (h1:ys.length*q.bt<=140737488355328:=by((try simp only[go_sem, *]);omega))
  (h2:ys.length<=9223372036854775807:=by((try simp only[go_sem, *]);omega))
  (hy:∀y,y∈ys->y.length=q.sz:=by first|assumption|(intro y hy;simp only[e_]at hy;subst hy;first|rfl|(simp only[go_sem];done)|(simp;done)))
  (hz:q.zok=true:=by rfl):iM k e q ys s:=⟨h0,h1,h2,hy,hz,h⟩
end
def GSg (s s':St):Prop:=∀(w0:World) (G:Gh) (w:World),Sim w0 G w s->∃G',G.le G'/\Sim w0 G' w s'
theorem GSg.of_gs {s s':St}(h:GS s s'):GSg s s':=fun w0 G w a=>⟨G,Gh.le.refl G,h w0 G w a⟩
theorem GSg.of_fg {s s':St}(h:Fg s s'):GSg s s':=.of_gs (.of_fg h)
theorem GSg.refl (s:St):GSg s s:=.of_gs (GS.refl s)
theorem GSg.trans {a b c:St}(h:GSg a b)(k:GSg b c):GSg a c:=fun w0 G w x=>by
 obtain⟨G1,h1,h2⟩:=h w0 G w x
 obtain⟨G2,h3,h4⟩:=k w0 G1 w h2
 exact⟨G2,h1.trans h3,h4⟩
section
variable {w0 w : World} {G : Gh} {s : St} {b g i n : Nat} {T T' : TypeId} {xs cs : List VV}
theorem Sim.frzR (h:Sim w0 G w s)(hb:s g=.row T 1 xs) :
  ∃G',G.le G'/\Sim w0 G' w (s.set g .free)/\(∀(i:Nat) (y:VV),xs[i]?=some y->y.one=true/\∃v,G'.K g i=some v/\R G' v y)/\∀b',b'≠g->∀i,G'.K b' i=G.K b' i:=by
 have hok:=h.ok g
 rw[hb]at hok
 obtain⟨hB,hn,c,cap,hh,hq,hs,hl,hm,hx⟩:=hok
 have hle:G.le ⟨fun b' i=>if b'=g then(if i<xs.length then c[i]? else none)else G.K b' i,G.cap⟩:=⟨fun b' i v hv=>by
  by_cases e:b'=g
  ·subst e;rw[hn i]at hv;cases hv
  ·simp only[if_neg e];exact hv,fun _ _ hc=>hc⟩
 refine⟨_,hle,⟨h.below,fun b' i v hv=>?_,h.cap,fun b'=>?_,h.gl,?_⟩,fun i y hy=>?_,fun b' hb' i=>if_neg hb'⟩
 ·by_cases e:b'=g
  ·subst e
   simp only[if_true]at hv
   split at hv
   ·simp[World.cell?,hh,hv]
   ·cases hv
  ·simp only[if_neg e]at hv
   exact h.K _ _ _ hv
 ·by_cases e:b'=g
  ·subst e;rw[q_];trivial
  ·rw[k_ _ _ e]
   exact CellOk.keep (h.ok b') rfl hle (fun i=>if_neg e)
 ·refine Rows.keep h.rows hle (Nat.le_refl _) (fun g' hg hs=>?_) (fun b' T' xs' rs hb'=>?_)
  ·have hne:g'≠g:=by rintro rfl;rw[hb]at hs;cases hs
   exact⟨by rw[k_ _ _ hne];exact hs,rfl,fun i=>if_neg hne⟩
  ·have hne:b'≠g:=by rintro rfl;rw[q_]at hb';cases hb'
   rw[k_ _ _ hne]at hb'
   exact⟨xs',rs,hb',fun r hr=>⟨hr,rfl,fun c hc=>⟨c,hc,rfl⟩⟩⟩
 ·obtain⟨h1,v,hv,hr⟩:=hx i y hy
  have hi:=(n_.1 hy).1
  exact⟨h1,v,by simp only[if_true,if_pos hi];exact hv,hr.mono hle⟩
theorem R.frz {G:Gh}{v:Value}(hn:xs.length=n)(hK:∀(i:Nat) (y:VV),xs[i]?=some y->y.one=true/\∃v,G.K g i=some v/\R G v y)(hr:R G v (.mrw g n)):R G v (.lst (xs.map fun y=>[y]) .no):=by
 cases hr with
 |mrw b' n' cap sz hq hc=>
  rcases Nat.eq_zero_or_pos n with h0|hpos
  ·subst h0
   have:xs=[]:=t_ hn
   subst this
   exact .emp _ _ _ (.inl rfl)
  ·have hv:∀i,i<n->∃v,G.K g i=some v/\∀y,xs[i]?=some y->R G v y:=fun i hi=>by
    obtain⟨_,v,h1,h2⟩:=hK i xs[i] (b_ (by omega))
    exact⟨v,h1,fun y hy=>by rw[b_ (by omega)]at hy;injection hy with hy;exact hy ▸ h2⟩
   refine .lst g 0 n cap 1 _ .no (fun i _=>(G.K g i).getD default) (by rw[a_];exact hn) hc ?_ ?_ ?_ ?_ (.inl rfl)
   ·intro x hx
    obtain⟨y,_,rfl⟩:=E_.1 hx
    rfl
   ·intro x hx y hy
    obtain⟨z,hz,rfl⟩:=E_.1 hx
    rw[e_]at hy
    subst hy
    obtain⟨i,hi⟩:=h_.1 hz
    exact(hK i y hi).1
   ·intro i j hi hj
    obtain⟨v,h1,_⟩:=hv i hi
    have:j=0:=by omega
    subst this
    simp[h1]
   ·intro i j x y hx hy
    rw[c_]at hx
    obtain⟨z,hz,rfl⟩:=Option.map_eq_some_iff.1 hx
    have hi:i<n:=by have:=(n_.1 hz).1;omega
    obtain⟨v,h1,h2⟩:=hv i hi
    have hj:j=0:=by
     have:=(n_.1 hy).1
     simp at this;exact this
    subst hj
    simp at hy
    subst hy
    rw[h1]
    exact h2 z hz
theorem GSg.frz (hb:s b=.obj T cs)(hi:cs[i]?=some (.mrw g n))(hg:s g=.row T' 1 xs)(hn:xs.length=n) :
  GSg s ((s.set g .free).set b (.obj T (cs.set i (.lst (xs.map fun y=>[y]) .no)))):=by
 intro w0 G w h
 have hne:¬ b=g:=by rintro rfl;rw[hb]at hg;cases hg
 obtain⟨G',hle,hS,hK,_⟩:=h.frzR hg
 have hob:=hS.ok b
 rw[k_ _ _ hne,hb]at hob
 obtain⟨hB,hnK,c,hc,hsz,hx⟩:=hob
 refine⟨G',hle,hS.below,hS.K,hS.cap,fun x=>?_,hS.gl,hS.rows.keep' (Gh.le.refl _) (Nat.le_refl _) (fun g' _ hg'=>⟨?_,rfl,fun _=>rfl⟩) (fun b' T xs rs hb'=>?_)⟩
 ·by_cases hxb:x=b
  ·subst hxb
   rw[q_]
   refine⟨hB,hnK,c,hc,by rw[hsz,List.length_set],fun j y hj=>?_⟩
   by_cases hji:j=i
   ·subst hji
    rw[fh hi]at hj
    injection hj with hj
    subst hj
    obtain⟨_,v,hv,hr⟩:=hx j _ hi
    exact⟨rfl,v,hv,hr.frz hn hK⟩
   ·rw[s_ (Ne.symm hji)]at hj
    exact hx j y hj
  ·rw[k_ _ _ hxb];exact hS.ok x
 ·by_cases e:g'=b
  ·subst e;rw[k_ _ _ hne,hb]at hg';cases hg'
  ·rw[k_ _ _ e];exact hg'
 ·by_cases e:b'=b
  ·subst e;rw[q_]at hb';cases hb'
  ·rw[k_ _ _ e]at hb';exact⟨hb',rfl⟩
theorem GS.rawnil (hb:s b=.obj T cs)(hi:cs[i]?=some (.lst [] .full)):GS s (s.set b (.obj T (cs.set i (.raw (.slice none 0 0))))):=by
 intro w0 G w h
 have hob:=h.ok b
 rw[hb]at hob
 obtain⟨hB,hnK,c,hc,hsz,hx⟩:=hob
 refine⟨h.below,h.K,h.cap,fun x=>?_,h.gl,h.rows.keep' (Gh.le.refl _) (Nat.le_refl _) (fun g' _ hg'=>⟨?_,rfl,fun _=>rfl⟩) (fun b' T xs rs hb'=>?_)⟩
 ·by_cases hxb:x=b
  ·subst hxb
   rw[q_]
   refine⟨hB,hnK,c,hc,by rw[hsz,List.length_set],fun j y hj=>?_⟩
   by_cases hji:j=i
   ·subst hji
    rw[fh hi]at hj
    injection hj with hj
    subst hj
    obtain⟨_,v,hv,hr⟩:=hx j _ hi
    refine⟨rfl,v,hv,?_⟩
    generalize hq:VV.lst [] .full=q at hr
    cases hr with
    |emp a cap o ho=>
     injection hq with _ hq;subst hq
     rcases ho with e|⟨_,rfl,rfl⟩
     ·cases e
     ·exact .raw _
    |lst b' off len cap sz' xs' o f hl hc' hz h1' hK hR' ho'=>
     injection hq with hq1 hq2;subst hq1;subst hq2
     rcases ho' with e|⟨_,e1,e2⟩|⟨e,_⟩
     ·cases e
     ·simp at hl;omega
     ·cases e
    |_=>cases hq
   ·rw[s_ (Ne.symm hji)]at hj
    exact hx j y hj
  ·rw[k_ _ _ hxb];exact h.ok x
 ·by_cases e:g'=b
  ·subst e;rw[hb]at hg';cases hg'
  ·rw[k_ _ _ e];exact hg'
 ·by_cases e:b'=b
  ·subst e;rw[q_]at hb';cases hb'
  ·rw[k_ _ _ e]at hb';exact⟨hb',rfl⟩
end
section
variable {P : Program} {N : Nat} {D : List Deferred} {k : List Itm} {Q : Pst} {env : Env} {s : St} {c : Code}
theorem JK {s':St}(hg:GSg s s')(h:Kp P N D (.code c::k) Q .norm env s'):Kp P N D (.code c::k) Q .norm env s:=by
 intro w0 G w a hfr hD hS
 obtain⟨G',hle,hS'⟩:=hg _ _ _ hS
 exact wp_mono (h w0 G' w a ⟨hfr.size,fun i=>(hfr.rel i).mono hle⟩ hD hS') fun e a w=>Up.back hle
theorem SCalls.pre {f:FuncId}{xs:List VV}{Q:SEnd->St->Prop}{s0:St}(hg:GSg s0 s)(h:SCalls P f xs s Q):SCalls P f xs s0 Q:=by
 intro w0 G w vs hS hR
 obtain⟨G',hle,hS'⟩:=hg _ _ _ hS
 refine(h w0 G' w vs hS' ⟨hR.1,fun j v y hv hy=>(hR.2 j v y hv hy).mono hle⟩).mono ?_
 rintro e w' ⟨G2,s',x,hG,hS2,hE,hq⟩
 exact⟨G2,s',x,hle.trans hG,hS2,hE,hq⟩
end
open Go.RowKit Go.Lib Go.Sort
def ca (r:List Int):VV:=.lst (aB r) .no
theorem iR {G:Gh}{v:Value}{r:List Int}{o:Own}(h:R G v (.lst (aB r) o)) :
  ∃ba b off c,v=.slice ba r.length c/\(r.length=0\/ba=some ⟨b,off,none⟩)/\∀(j:Nat) (x:Int),r[j]?=some x->G.K b (off+j)=some (.int .i64 x):=by
 generalize hl:aB r=l at h
 cases h with
 |emp a cap o ho=>
  have:r=[]:=by cases r with
   |nil=>rfl
   |cons a t=>cases hl
  subst this
  exact⟨a,0,0,cap,rfl,.inl rfl,fun j x hx=>by simp at hx⟩
 |lst b off len cap sz xs o f hl' hc hz h1 hK hR ho=>
  subst hl
  rw[bH]at hl'
  subst hl'
  refine⟨_,b,off,cap,rfl,.inr rfl,fun j x hx=>?_⟩
  have hj:=(n_.1 hx).1
  have hsz:sz=1:=by
   have:=hz [VV.int .i64 x] (p_ (cD hx))
   simpa using this.symm
  subst hsz
  have h2:=hK j 0 hj (by omega)
  have h3:=hR j 0 [VV.int .i64 x] (.int .i64 x) (cD hx) rfl
  cases h4:f j 0 with
  |int k n=>rw[h4]at h3 h2;cases h3;simpa using h2
  |_=>rw[h4]at h3;cases h3
theorem En {α:Type}(ct:α->List Int):SWO (ltOf fun x y=>cA (ct x) (ct y)) where
 irrefl x:=by simp[ltOf,fJ]
 trans x y z h1 h2:=by
  simp only[ltOf,decide_eq_true_eq]at *
  exact eZ _ _ _ h1 h2
 ntrans x y z h1 h2:=by
  simp only[ltOf,decide_eq_false_iff_not]at *
  intro h3
  rcases Int.lt_or_le 0 (cA (ct x) (ct y))with h|h
  ·have:cA (ct y) (ct x)<0:=by rw[je];omega
   exact h2 (eZ _ _ _ this h3)
  ·have h0:cA (ct x) (ct y)=0:=by omega
   rw[mR h0]at h3
   exact h2 h3
def dH (l:List (List Int)):List (List Int):=l.foldl putRow []
theorem nw:∀(l m:List (List Int)),Rising m->Rising (l.foldl putRow m)/\∀r,r∈l.foldl putRow m↔r∈m\/r∈l
 |[],m,h=>⟨h,fun r=>by simp⟩
 |a::l,m,h=>by
  have ih:=nw l (putRow m a) (gx h)
  refine⟨ih.1,fun r=>?_⟩
  rw[List.foldl_cons,ih.2 r,eW,F_]
  grind
theorem gZ (l:List (List Int)):Rising (dH l):=(nw l [] Rising.nil).1
theorem sortR_mem {l:List (List Int)}{r:List Int}:r∈dH l↔r∈l:=by rw[dH,(nw l [] Rising.nil).2 r];simp
theorem uM {l m:List (List Int)}(h:Rising m)(hm:∀r,r∈m↔r∈l):m=dH l:=gJ h (gZ l) fun r=>(hm r).trans sortR_mem.symm
theorem yE (enc:Nat->Value)(w:World)(g m:Nat)(dk:Array Nat)(os:Array Obj){b:Nat}(hb:b≠g)(hlt:b<w.heap.size):(sortWorld enc w g 0 m dk os).heap[b]?=w.heap[b]?:=by
 unfold sortWorld
 rw[heap_grow_old _ _ (by simp[Sort.ahead];exact hlt)]
 show (w.heap.modify g _)[b]?=_
 rw[Array.getElem?_modify,if_neg (Ne.symm hb)]
theorem yX {rows:List (List Int)}{d:List Nat}(hd:d.Perm (List.range rows.length)):(d.map fun i=>(rows[i]?).getD []).Perm rows:=by
 have h:=hd.map fun i=>(rows[i]?).getD []
 refine h.trans (List.Perm.of_eq ?_)
 apply List.ext_getElem
 ·simp
 ·intro i h1 h2
  simp[b_ h2]
section
variable {s : St}
theorem zS (a b:List Int)(o1 o2:Own)(s:St)(h1:a.length<=140737488355328)(h2:b.length<=140737488355328):SRet Tryz.prog 30 [.lst (aB a) o1,.lst (aB b) o2] s (.int .i64 (cA a b)) s:=by
 intro w0 G w vs hS hA
 obtain⟨v1,v2,rfl,r1,r2⟩:=rS hA
 obtain⟨ba,b1,f1,c1,rfl,g1,k1⟩:=iR r1
 obtain⟨bb,b2,f2,c2,rfl,g2,k2⟩:=iR r2
 refine(xJ ba bb b1 f1 c1 b2 f2 c2 a b w h1 h2 g1 g2 (fun j x hx=>hS.K _ _ _ (k1 j x hx)) fun j x hx=>hS.K _ _ _ (k2 j x hx)).mono ?_
 rintro e w' ⟨rfl,rfl⟩
 exact⟨G,s,.ret (.int .i64 (cA a b)),Gh.le.refl G,hS,R.int .i64 _,rfl,rfl⟩
theorem JE (rows:List (List Int))(g:Nat)(T:TypeId)(hn:rows.length<=140737488355328)(hnd:rows.Nodup)(hlen:∀r,r∈rows->r.length<=140737488355328)(s:St)(hs:s g=.row T 1 (rows.map ca)) :
  SRet Tryz.prog 29 [.mrw g rows.length,.fn 30 []] s (.tup []) (s.set g (.row T 1 ((dH rows).map ca))):=by
 intro w0 G w vs hS hA
 obtain⟨v1,v2,rfl,r1,r2⟩:=rS hA
 cases r1 with
 |mrw _ _ cap sz hq hc=>
 cases r2 with
 |fn f us xs hus hR=>
 obtain rfl:us=#[]:=Array.eq_empty_of_size_eq_zero (by simpa using hus)
 have hok:=hS.ok g
 rw[hs]at hok
 obtain⟨hB,hnK,c,cap',hh,hq',hcs,hl,hm,hx⟩:=hok
 rw[a_]at hl
 have hblk:g<w.heap.size:=hS.lt (by rw[hs];simp)
 have hcell:∀(i:Nat) (r:List Int),rows[i]?=some r->∃v,c[i]?=some v/\R G v (ca r):=fun i r hr=>(hx i (ca r) (by simp[hr])).2
 let enc:Nat->Value:=fun i=>if i<rows.length then(c[i]?).getD (.slice none 0 0)else .slice none 0 0
 let ct:Nat->List Int:=fun i=>(rows[i]?).getD []
 have henc:∀i,∃v,R G v (ca (ct i))/\enc i=v/\(i<rows.length->c[i]?=some v):=fun i=>by
  by_cases hi:i<rows.length
  ·obtain⟨v,h1,h2⟩:=hcell i _ (b_ hi)
   exact⟨v,by simp only[ct,b_ hi,Option.getD_some];exact h2,by simp only[enc,if_pos hi,h1,Option.getD_some],fun _=>h1⟩
  ·refine⟨.slice none 0 0,?_,by simp only[enc,if_neg hi],fun h=>absurd h hi⟩
   simp only[ct,C_ (Nat.le_of_not_lt hi),Option.getD_none]
   exact .emp none 0 .no (.inl rfl)
 have hone:OneCell enc:=fun i=>by
  obtain⟨v,h1,h2,_⟩:=henc i
  rw[h2,h1.one]
  rfl
 have hctl:∀i,(ct i).length<=140737488355328:=fun i=>by
  cases hi:rows[i]? with
  |none=>simp[ct,hi]
  |some r=>simp only[ct,hi,Option.getD_some];exact hlen r (p_ hi)
 have hcmp:CmpReads Tryz.prog 30 #[] enc (fun x y=>cA (ct x) (ct y)) g 0 (Array.range rows.length).size w:=by
  intro m os dk hdk x y
  obtain⟨v1,k1,e1,_⟩:=henc x
  obtain⟨v2,k2,e2,_⟩:=henc y
  obtain⟨ba,b1,f1,c1,hv1,g1,q1⟩:=iR k1
  obtain⟨bb,b2,f2,c2,hv2,g2,q2⟩:=iR k2
  rw[e1,e2,hv1,hv2]
  have hk:∀(b i:Nat) (v:Value),G.K b i=some v->(sortWorld enc w g 0 m dk os).cell? ⟨b,i,none⟩=some v:=fun b i v h=>by
   have hne:b≠g:=by rintro rfl;rw[hnK]at h;cases h
   exact(World.cell?_of_block (w:=w) (yE enc w g m dk os hne (hS.K_lt h))).trans (hS.K _ _ _ h)
  refine(xJ ba bb b1 f1 c1 b2 f2 c2 (ct x) (ct y) _ (hctl x) (hctl y) g1 g2 (fun j z hz=>hk _ _ _ (q1 j z hz)) fun j z hz=>hk _ _ _ (q2 j z hz)).mono ?_
  rintro e w' ⟨rfl,rfl⟩
  exact⟨rfl,0,rfl⟩
 have hH:Holds enc w g 0 (Array.range rows.length):=fun j hj=>by
  rw[Array.size_range]at hj
  obtain⟨v,h1,h2,h3⟩:=henc j
  have hj3:=h3 hj
  constructor
  ·rw[getElem!_pos _ j (by simpa using hj),Array.getElem_range,h2]
   simp only[World.cell?,Nat.zero_add,hh]
   exact hj3
  ·simp[World.frozen?,hh]
 have hsz:(Array.range rows.length).size=rows.length:=Array.size_range
 have hmain:=Tryz.slices_SortFunc enc hone (fun x y=>cA (ct x) (ct y)) (En ct) 30 #[] g 0 cap (Array.range rows.length) w BY hcmp.lays hH hblk (by rw[hsz];omega)
 rw[hsz]at hmain
 refine hmain.mono ?_
 rintro e w' ⟨rfl,d',n,os,hp,hsrt,rfl⟩
 obtain⟨hp1,hp2,hp3⟩:=hp
 rw[hsz]at hp1
 have hex:(d'.extract 0 rows.length)=d':=by rw[<- hp1];exact Array.extract_size ..
 have hex2:((Array.range rows.length).extract 0 rows.length)=Array.range rows.length:=by have h:=Array.extract_size (xs:=Array.range rows.length);rw[hsz]at h;exact h
 rw[hex,hex2,Array.toList_range]at hp3
 have hperm:(d'.toList.map ct).Perm rows:=yX hp3
 have hdl:d'.toList.length=rows.length:=by simpa using hp1
 have hR':d'.toList.map ct=dH rows:=by
  refine uM ?_ fun r=>hperm.mem_iff
  have hnd':(d'.toList.map ct).Nodup:=hperm.nodup_iff.2 hnd
  unfold Rising
  rw[List.pairwise_iff_getElem]
  intro i j hi hj hij
  have hi':i<d'.size:=by simpa using hi
  have hj':j<d'.size:=by simpa using hj
  have h1:=hsrt i j (Nat.zero_le _) hij (by omega)
  rw[getElem!_pos d' i hi',getElem!_pos d' j hj']at h1
  simp only[ltOf,decide_eq_false_iff_not]at h1
  have hne:=(List.pairwise_iff_getElem.1 hnd') i j hi hj hij
  simp only[List.getElem_map,Array.getElem_toList]at hne ⊢
  have h2:cA (ct d'[i]) (ct d'[j])≠0:=fun e=>hne (mR e)
  rw[je]at h1
  omega
 have hS1:Sim w0 G (Sort.ahead w n) s:=hS.world ⟨rfl,rfl,rfl,Nat.le_refl _,fun _ _=>rfl⟩
 have hmod:∀k,(Sort.putRow enc (Sort.ahead w n) g 0 d').heap[k]?=if g=k then(w.heap[k]?).map (onCells (putCells enc 0 d'))else w.heap[k]?:=fun k=>Array.getElem?_modify ..
 have hS2:=hS1.set_row hs (Sort.putRow enc (Sort.ahead w n) g 0 d') c (putCells enc 0 d' c) (ys:=(dH rows).map ca) hh
  ⟨rfl,rfl,rfl,by simp[Sort.putRow,mapBlock],fun k hk=>by rw[hmod,if_neg (by omega)];rfl⟩ (by simp[Sort.putRow,mapBlock]) (by rw[hmod,if_pos rfl,hh];rfl) (fun k hk=>by rw[hmod,if_neg (Ne.symm hk)];rfl)
  (by simp[putCells]) (by rw[<- hR',a_,a_,hdl,hcs];exact hl) (fun i x hi=>by
   rw[<- hR',List.map_map,c_]at hi
   obtain⟨k,hk,rfl⟩:=Option.map_eq_some_iff.1 hi
   have hil:=(n_.1 hk).1
   have hkl:k<rows.length:=by
    have:=hp3.mem_iff.1 (p_ hk)
    simpa using this
   obtain⟨v,h1,h2,h3⟩:=henc k
   refine⟨rfl,v,?_,h1⟩
   have hid:i<d'.size:=by simpa using hil
   have hdk:d'[i]=k:=by
    have:=b_ hil
    rw[hk]at this
    injection this with this
    rw[this,Array.getElem_toList]
   have hic:i<c.size:=by rw[hcs];omega
   simp only[putCells,Array.getElem?_mapIdx,Array.getElem?_eq_getElem hic,Option.map_some,Nat.zero_le,Nat.zero_add,true_and,hid,if_true,Nat.sub_zero]
   rw[getElem!_pos d' i hid,hdk,h2])
 refine⟨G,_,.ret (.tup []),Gh.le.refl G,hS2.world ⟨rfl,rfl,rfl,?_,fun k hk=>?_⟩,.tup #[] [] rfl (fun j v y h=>by simp at h),rfl,rfl⟩
 ·simp[sortWorld,grow]
 ·exact heap_grow_old _ _ hk
end
end Go.Proofs.YteldpmgepfaiiaaGreatDoor
namespace Go.Proofs.YteldpmgepfaiiaaGreatDoor
open Go.RowKit Go.Lib
theorem Sim.know {w0 w w':World}{G:Gh}{s:St}(h:Sim w0 G w s)(hb:Below w.heap.size w w')(b:Nat)(hlt:w.heap.size<=b)(F:Nat->Option Value)(hF:∀i v,F i=some v->w'.cell? ⟨b,i,none⟩=some v) :
  ∃G',G.le G'/\Sim w0 G' w' s/\∀i v,F i=some v->G'.K b i=some v:=by
 have hn:∀i,G.K b i=none:=fun i=>by
  cases hk:G.K b i with
  |none=>rfl
  |some v=>exact absurd (h.K_lt hk) (by omega)
 have hle:G.le ⟨fun b' i=>if b'=b then F i else G.K b' i,G.cap⟩:=⟨fun b' i v hv=>by
  by_cases e:b'=b
  ·subst e;rw[hn i]at hv;cases hv
  ·simp only[if_neg e];exact hv,fun _ _ hc=>hc⟩
 have h1:=h.world hb
 refine⟨_,hle,⟨h1.below,fun b' i v hv=>?_,h1.cap,fun b'=>?_,h.gl,?_⟩,fun i v hv=>by simp only[if_true];exact hv⟩
 ·by_cases e:b'=b
  ·subst e
   simp only[if_true]at hv
   exact hF i v hv
  ·simp only[if_neg e]at hv
   exact h1.K b' i v hv
 ·by_cases e:b'=b
  ·subst e
   have hf:s b'=.free:=by
    by_cases hc:s b'=.free
    ·exact hc
    ·exact absurd (h.lt hc) (by omega)
   rw[hf]
   trivial
  ·exact(h1.ok b').keep rfl hle fun i=>if_neg e
 ·exact h.rows.keep' hle hb.size (fun g hl hg=>⟨hg,hb.block g hl,fun i=>if_neg (by omega)⟩) fun x T xs rs hx=>⟨hx,hb.block x (h.lt (by rw[hx];simp))⟩
theorem CO {G:Gh}{vs:Array Value}{x:VV}(h:RL G vs [x]):∃a,vs=#[a]/\R G a x:=by
 obtain⟨hs,hr⟩:=h
 obtain⟨l⟩:=vs
 match l,hs,hr with
 |[a],_,hr=>exact⟨a,rfl,hr 0 a x rfl rfl⟩
theorem yR {G:Gh}{r:List Int}{g cap:Nat}(hc:r.length<=cap)(h:∀(i:Nat) (x:Int),r[i]?=some x->G.K g i=some (.int .i64 x)):R G (.slice (some ⟨g,0,none⟩) r.length cap) (ca r):=by
 refine .lst g 0 r.length cap 1 (aB r) .no (fun i _=>.int .i64 ((r[i]?).getD 0)) bH hc ?_ ?_ ?_ ?_ (.inl rfl)
 ·intro x hx
  obtain⟨y,_,rfl⟩:=E_.1 hx
  rfl
 ·intro x hx y hy
  obtain⟨z,_,rfl⟩:=E_.1 hx
  rw[e_]at hy
  subst hy
  rfl
 ·intro i j hi hj
  have:j=0:=by omega
  subst this
  rw[b_ hi]
  simpa using h i r[i] (b_ hi)
 ·intro i j x y hx hy
  simp only[aB,c_]at hx
  obtain⟨z,hz,rfl⟩:=Option.map_eq_some_iff.1 hx
  have hj:j=0:=by
   have:=(n_.1 hy).1
   simp at this;exact this
  subst hj
  simp at hy
  subst hy
  simp only[hz,Option.getD_some]
  exact .int .i64 z
theorem lE {w0 w w':World}{G:Gh}{s:St}{r:List Int}{v':Value}(hS:Sim w0 G w s)(ho:w'.ownsRow w.heap.size 3 1 v' r.length (r.map (Value.int .i64)))(hb:Below w.heap.size w w') :
  ∃G',G.le G'/\Sim w0 G' w' s/\R G' v' (ca r):=by
 obtain⟨hl,ho⟩:=ho
 rcases ho with ⟨rfl,h0⟩|⟨g,cap,cur,rfl,hge,hh,hcap,hm,hsz,hcur⟩
 ·have:r=[]:=t_ h0
  subst this
  exact⟨G,Gh.le.refl G,hS.world hb,.emp none 0 .no (.inl rfl)⟩
 ·obtain⟨G',h1,h2,h3⟩:=hS.know hb g hge (fun i=>if i<r.length then cur[i]? else none) fun i v hv=>by
   split at hv
   ·simp only[World.cell?,hh];exact hv
   ·cases hv
  refine⟨G',h1,h2,yR hcap fun i x hi=>h3 i _ ?_⟩
  have hil:=(n_.1 hi).1
  simp only[if_pos hil]
  have h4:(cur.toList.take (r.length*1))[i]?=some (.int .i64 x):=by rw[hcur,c_,hi];rfl
  rw[List.getElem?_take_of_lt (by omega),Array.getElem?_toList]at h4
  exact h4
theorem yl (r:List Int)(o:Own)(s:St)(hl:r.length*8<=140737488355328):SRet Tryz.prog 58 [.lst (aB r) o] s (ca r) s:=by
 intro w0 G w vs hS hA
 obtain⟨v,rfl,hr⟩:=CO hA
 obtain⟨ba,b,off,c,rfl,g1,k1⟩:=iR hr
 rcases g1 with h0|rfl
 ·have:r=[]:=t_ h0
  subst this
  cases ba with
  |none=>
   refine(Tryz.slices_Clone_int_nil 0 c w).mono ?_
   rintro e w' ⟨rfl,rfl⟩
   exact⟨G,s,.ret (ca []),Gh.le.refl G,hS,R.emp none 0 .no (.inl rfl),rfl,rfl⟩
  |some a=>
   refine(Tryz.slices_Clone_int_zero a c w).mono ?_
   rintro e w' ⟨v',rfl,ho,_,hb⟩
   obtain⟨G',h1,h2,h3⟩:=lE (r:=[]) hS ho hb
   exact⟨G',s,.ret (ca []),h1,h2,h3,rfl,rfl⟩
 ·refine(Tryz.slices_Clone_int b off r.length c r w (Nat.le_refl _) hl fun j hj=>hS.K _ _ _ (k1 j _ (by rw[b_ hj,List.getD_eq_getElem?_getD,b_ hj];rfl))).mono ?_
  rintro e w' ⟨v',rfl,ho,_,hb⟩
  rw[f_]at ho
  obtain⟨G',h1,h2,h3⟩:=lE hS ho hb
  exact⟨G',s,.ret (ca r),h1,h2,h3,rfl,rfl⟩
theorem C0 (r:List Int)(b:Nat)(T:TypeId)(s:St)(hs:s b=.obj T (cY r))(hl:r.length*8<=140737488355328):SRet Tryz.prog 58 [.msl b r.length] s (ca r) s:=by
 intro w0 G w vs hS hA
 obtain⟨v,rfl,hr⟩:=CO hA
 cases hr with
 |msl=>
 have hok:=hS.ok b
 rw[hs]at hok
 obtain⟨_,_,c,hh,hsz,hx⟩:=hok
 refine(Tryz.slices_Clone_int b 0 r.length r.length r w (Nat.le_refl _) hl fun j hj=>?_).mono ?_
 ·obtain⟨_,v,hv,hr⟩:=hx j (.int .i64 r[j]) (by simp[cY,b_ hj])
  simp only[World.cell?,hh,Nat.zero_add,hv,List.getD_eq_getElem?_getD,b_ hj,Option.getD_some]
  cases v with
  |int k n=>cases hr;rfl
  |_=>cases hr
 ·rintro e w' ⟨v',rfl,ho,_,hb⟩
  rw[f_]at ho
  obtain⟨G',h1,h2,h3⟩:=lE hS ho hb
  exact⟨G',s,.ret (ca r),h1,h2,h3,rfl,rfl⟩
theorem Ex (s:St)(xs:List VV):SRet Tryz.prog 29 [.raw (.slice none 0 0),.fn 30 xs] s (.tup []) s:=by
 intro w0 G w vs hS hA
 obtain⟨v1,v2,rfl,r1,r2⟩:=rS hA
 cases r1 with
 |raw=>
 refine(Tryz.slices_SortFunc_none (α:=Nat) none 0 v2 w).mono ?_
 rintro e w' ⟨rfl,rfl⟩
 exact⟨G,s,.ret (.tup []),Gh.le.refl G,hS,R.tup #[] [] rfl (fun j v y h=>by simp at h),rfl,rfl⟩
end Go.Proofs.YteldpmgepfaiiaaGreatDoor
set_option maxRecDepth 100000
namespace Go.Proofs.YteldpmgepfaiiaaGreatDoor
open Go.RowKit
def oH (n:Int)(k:Nat):UInt8:=UInt8.ofNat (n.fdiv (2 ^ (8*k)) % 256).toNat
def c9 (n:Int)(k:Nat):List UInt8:=(List.range k).map (oH n)
def dG (r:List Int):List UInt8:=r.flatMap fun n=>c9 n 8
theorem it (n:Int)(k:Nat):(c9 n k).length=k:=by simp[c9]
theorem tI (n:Int)(k:Nat):c9 n (k+1)=c9 n k++[oH n k]:=by simp[c9,List.range_succ]
theorem gF (r:List Int):(dG r).length=8*r.length:=by
 induction r with
 |nil=>rfl
 |cons a r ih=>
  have:dG (a::r)=c9 a 8++dG r:=rfl
  rw[this,d_,it,ih,List.length_cons]
  omega
theorem uI {r:List Int}{i:Nat}{n:Int}(h:r[i]?=some n):dG (r.take (i+1))=dG (r.take i)++c9 n 8:=by
 have h1:r.take (i+1)=r.take i++[n]:=by rw[List.take_add_one,h];rfl
 rw[h1]
 unfold dG
 rw[List.flatMap_append]
 rfl
theorem km (n:Int)(k:Nat):IntKind.u8.wrap (n.fdiv (2 ^ (8*k)))=((oH n k).toNat:Int):=by
 have h1:∀z:Int,IntKind.u8.wrap z=z % 256:=fun z=>rfl
 rw[h1]
 have h2:0<=n.fdiv (2 ^ (8*k)) % 256:=Int.emod_nonneg _ (by decide)
 have h3:n.fdiv (2 ^ (8*k)) % 256<256:=Int.emod_lt_of_pos _ (by decide)
 unfold oH
 generalize n.fdiv (2 ^ (8*k)) % 256=z at *
 have h4:(UInt8.ofNat z.toNat).toNat=z.toNat:=by
  rw[UInt8.toNat_ofNat']
  omega
 rw[h4]
 omega
theorem zc {k:Nat}(h:k<=8):IntKind.i64.wrap (8*(k:Int))=((8*k:Nat):Int):=by
 rw[eo (by omega) (by omega)]
 omega
theorem tY (l:List UInt8)(c:UInt8):bi (l++[c])=bi l++[[.int .u8 (c.toNat:Int)]]:=by simp[bi]
set_option maxHeartbeats 4000000 in
theorem mW (r:List Int)(hr:r.length<=1000000000000)(s:St):SRet Tryz.prog 61 [ca r] s (.str (dG r)) s:=by
 have hlen:(aB r).length=r.length:=bH
 generalize hR:dG r=R
 have HR:=u_ hR
 clear hR
 unfold ca
 refine aw Tryz.func61 rfl Tryz.ntmps61 rfl fun Q hQ hQe=>?_
 (repeat'(first|refine Ctl ?_|((with_reducible refine j_ hK ?_);clear hK hE K E)|(((with_reducible refine ae fun K E hK hE=>?_))<;>(try simp(disch:=omega) only[go_sem,seval, *]))))
 refine aI (fun m env s'=>∃(i:Nat) (o:Own),i<=r.length/\m+i=r.length/\OwnOk s o (8*i)/\s'=s.own o 5 1 (8*i)/\env 3=.lst (bi (dG (r.take i))) o/\env 7=.lst (aB r) .no/\env 8=.int .i64 r.length/\env 9=.int .i64 i) r.length ?_ ?_
 ·exact⟨_,Fg.refl _,0,.full,by omega,by omega,(show OwnOk s .full 0 from rfl),rfl,ab,ab,ab,ab⟩
 rintro m env s' ⟨i,o,hi,hm,hO,rfl,e3,e7,e8,e9⟩
 by_cases hlt:i<r.length
 ·obtain⟨n,hn⟩:∃n,r[i]?=some n:=⟨_,b_ hlt⟩
  have hsn:=cD hn
  have HT:=u_ (uI hn)
  have hTl:(dG (r.take i)).length=8*i:=by rw[gF,A_];omega
  clear hn
  generalize dG (r.take i)=L at *
  (repeat'(first|refine Ctl ?_|((with_reducible refine j_ hK ?_);clear hK hE K E)|((with_reducible refine aj (fun h=>?_) (fun h=>?_))<;>(try(exfalso;assumption)))|(((with_reducible refine ae fun K E hK hE=>?_))<;>(try simp(disch:=omega) only[go_sem,seval, *]))))
  refine aI (fun m2 env s2=>∃(k:Nat) (o2:Own),k<=8/\m2+k=8/\OwnOk s o2 (8*i+k)/\s2=s.own o2 5 1 (8*i+k)/\env 3=.lst (bi (L++c9 n k)) o2/\env 5=.int .i64 n/\env 6=.int .i64 k/\env 7=.lst (aB r) .no/\env 8=.int .i64 r.length/\env 9=.int .i64 i) 8 ?_ ?_
  ·exact⟨_,Fg.refl _,0,o,by omega,by omega,hO,rfl,by rw[show c9 n 0=[] from rfl,List.append_nil];((try simp(disch:=assumption) only[go_sem,seval, *])<;>rfl),ab,ab,ab,ab,ab⟩
  clear e3 e7 e8 e9 env
  rintro m2 env s2 ⟨k,o2,hk,hm2,hO2,rfl,e3,e5,e6,e7,e8,e9⟩
  by_cases hlt2:k<8
  ·have hw1:=zc (k:=k) (by omega)
   have hw2:=km n k
   have hS8:=u_ ((congrArg bi (show L++c9 n (k+1)=(L++c9 n k)++[oH n k] by rw[tI,List.append_assoc])).trans (tY _ _))
   have hml:(bi (L++c9 n k)).length=8*i+k:=by simp[bi,hTl,it]
   have h1y:∀y,y∈bi (L++c9 n k)->y.length=1:=fun y hy=>by
    obtain⟨c,_,rfl⟩:=E_.1 hy
    rfl
   have hmin:min (8*k) 64=8*k:=by omega
   generalize bi (L++c9 n k)=M at *
   clear hTl
   (repeat'(first|refine Ctl ?_|((with_reducible refine j_ hK ?_);clear hK hE K E)|((with_reducible refine aj (fun h=>?_) (fun h=>?_))<;>(try(exfalso;omega)))|((first|(with_reducible refine ae fun K E hK hE=>?_)|((with_reducible refine cq (fun o2 ho=>?_));(try simp(disch:=assumption) only[hml]at ho)))<;>(try simp(disch:=first|assumption|omega) only[go_sem,seval, *]))))
   exact⟨_,Fg.refl _,m2 - 1,by omega,k+1,o2,by omega,by omega,ho,rfl,by rw[hS8.out];((try simp(disch:=assumption) only[go_sem,seval, *])<;>rfl),ab,ab,ab,ab,ab⟩
  ·obtain rfl:k=8:=by omega
   rw[<- HT.out]at e3
   (repeat'(first|refine Ctl ?_|((with_reducible refine j_ hK ?_);clear hK hE K E)|((with_reducible refine aj (fun h=>?_) (fun h=>?_))<;>(try(exfalso;assumption)))|(((with_reducible refine ae fun K E hK hE=>?_))<;>(try simp(disch:=omega) only[go_sem,seval, *]))))
   exact⟨_,Fg.refl _,m - 1,by omega,i+1,o2,by omega,by omega,hO2,rfl,ab,ab,ab,ab⟩
 ·obtain rfl:i=r.length:=by omega
  rw[f_,HR.out]at e3
  have hFg:Fg (s.own o 5 1 (8*r.length)) s:=Fg.own hO
  generalize s.own o 5 1 (8*r.length)=T at *
  have HF:=u_ hFg
  clear hFg hO
  (repeat'(first|refine Ctl ?_|((with_reducible refine j_ hK ?_);clear hK hE K E)|((with_reducible refine aj (fun h=>?_) (fun h=>?_))<;>(try(exfalso;assumption)))|(((with_reducible refine ae fun K E hK hE=>?_))<;>(try simp(disch:=omega) only[go_sem,seval, *]))))
  all_goals(refine ap EY hQ ?_)
  all_goals(refine⟨_,_,Wk.of_eq ?_,?_,rfl,rfl⟩)
  all_goals first|exact HF.out|rfl
abbrev PU (α:Type):=Except (Nat×Nat) (α×List Sgn)
def bu {α β:Type}(x:PU α)(k:α->List Sgn->PU β):PU β:=
 match x with
 |.ok (a,L)=>k a L
 |.error y=>.error y
theorem bW {α β:Type}{a:α}{L:List Sgn}{k:α->List Sgn->PU β}:bu (.ok (a,L)) k=k a L:=rfl
section
variable {P : Program} {N : Nat} {all rest : List Oper} {K : Env -> St -> Prop} {E : VV -> Env -> St -> Prop} {d : Option Tmp} {env : Env} {f : FuncId} {xs : List VV} {α ι κ : Type} {enc : α -> VV} {s s0 : St} {r e : Nat} {x : PU α}
end
def dR (e:Nat)(L:List Sgn)(t:List UInt8):PU Unit:=if isT L 0 t then .ok ((),L.tail)else .error (Bb e L,110)
def ev (e:Nat)(L:List Sgn)(hv mst:Nat)(b:Bool):PU Unit:=if mst<=hv/\b=true then .error (Bb e L,2)else .ok ((),L)
def kM (e:Nat)(L:List Sgn)(k:Nat):PU (List UInt8):=
 match L with
 |[]=>.error (e,110)
 |x::L'=>if x.kind=k then .ok (x.text,L')else .error (x.at_,110)
def ey (e:Nat)(L:List Sgn):PU (List UInt8):=kM e L 1
theorem ye {G:Gh}{vs:Array Value}{x:VV}(h:RL G vs [x]):∃a,vs=#[a]/\R G a x:=by
 obtain⟨hs,hr⟩:=h
 obtain⟨l⟩:=vs
 match l,hs,hr with
 |[a],_,hr=>exact⟨a,rfl,hr 0 a x rfl rfl⟩
theorem t8 (w:World)(k:Nat)(os:Array Obj):Below w.heap.size w (Sort.grow (w.drewN k) os):=
 ⟨rfl,rfl,rfl,by simp[Sort.grow,World.drewN],fun j hj=>by
  show (w.heap++os)[j]?=w.heap[j]?
  rw[Array.getElem?_append_left hj]⟩
theorem CX (n:Int)(h0:-9223372036854775808<=n)(h1:n<=9223372036854775807)(s:St):SRet Tryz.prog 122 [.int .i64 n] s (.str (Lib.itoa n)) s:=by
 intro w0 G w vs hS hA
 obtain⟨a,rfl,ha⟩:=ye hA
 cases ha
 have htab:Lib.TabIs Tryz.prog w "internal/strconv.uint64pow10" .u64 Lib.pow10Tab:=by
  have hg:Lib.TabIs Tryz.prog w0 "internal/strconv.uint64pow10" .u64 Lib.pow10Tab:=hS.gl
  unfold Lib.TabIs World.var? at hg ⊢
  cases hn:Tryz.prog.globalNamed "internal/strconv.uint64pow10" with
  |none=>rw[hn]at hg;cases hg
  |some g=>
   rw[hn]at hg
   simp only[Option.bind_some]at hg ⊢
   have hlt:g<w0.heap.size:=by
    cases hc:w0.heap[g]? with
    |none=>rw[hc]at hg;cases hg
    |some o=>exact(Array.getElem?_eq_some_iff.1 hc).1
   rw[hS.below.block g hlt]
   exact hg
 refine Calls.mono (Tryz.strconv_Itoa n h0 h1 w htab) fun e w' h=>?_
 obtain⟨rfl,k,os,rfl⟩:=h
 exact⟨G,s,.ret (.str (Lib.itoa n)),Gh.le.refl G,hS.world (t8 w k os),by
  have:=R.str (G:=G) (Lib.itoa n).toArray
  simpa [RE]using this,rfl,rfl⟩
theorem C2 (t:List UInt8)(n:Int)(hl:t.length<=18)(h:Lib.atoi t=some n)(s:St):SRet Tryz.prog 36 [.str t] s (.tup [.int .i64 n,.raw .nilIface]) s:=by
 intro w0 G w vs hS hA
 obtain⟨a,rfl,ha⟩:=ye hA
 cases ha with
 |str a=>
  refine Calls.mono (Tryz.strconv_Atoi ⟨a⟩ n (by simpa [ByteArray.size]using hl) h w) fun e w' h=>?_
  obtain⟨rfl,t,rfl⟩:=h
  refine⟨G,s,.ret (.tup [.int .i64 n,.raw .nilIface]),Gh.le.refl G,hS.world ⟨rfl,rfl,rfl,by rw[Lib.bytesWorld_size];omega,fun j hj=>Lib.bytesWorld_at_old _ _ _ j hj⟩,?_,rfl,rfl⟩
  refine R.tup _ _ rfl fun j v y hv hy=>?_
  match j with
  |0=>simp at hv hy;subst hv;subst hy;exact .int _ _
  |1=>simp at hv hy;subst hv;subst hy;exact .raw _
  |j+2=>simp at hy
def db (ks:List Int):List Sgn->Bool
 |[]=>false
 |x::_=>ks.contains (x.kind:Int)
def GoodU (L:List Sgn):Prop:=∀x,x∈L->x.kind=2->∃n:Nat,Lib.atoi x.text=some (n:Int)/\x.text.length<=18
def ra (t:List UInt8):Nat:=((Lib.atoi t).getD 0).toNat
def qZ (e:Nat)(L:List Sgn):PU Nat:=bu (kM e L 2) fun t L=>.ok (ra t,L)
structure Trm where
 var:Bool
 nm:List UInt8
 n:Int
def aC (t:Trm):List VV:=[.bool t.var,.str t.nm,.int .i64 t.n]
def Mb:List Sgn->Bool
 |[]=>false
 |x::_=>decide (x.kind=2)
def gG (e:Nat)(L:List Sgn):PU Trm:=if Mb L=true then bu (qZ e L) fun n L=>.ok (⟨false,[],(n:Int)⟩,L)else bu (ey e L) fun t L=>.ok (⟨true,t,0⟩,L)
def listGo {α:Type}(e:Nat)(one:List Sgn->PU α)(ks:List Int):Nat->List α->List Sgn->PU (List α)
 |0,_,_=>.error (0,0)
 |f+1,out,L=>bu (ev e L out.length 8 (db ks L)) fun _ L=>bu (one L) fun x L=>if isT L 0 [44]=true then listGo e one ks f (out++[x]) L.tail else .ok (out++[x],L)
def iZ {α:Type}(e:Nat)(one:List Sgn->PU α)(ks:List Int)(L:List Sgn):PU (List α):=
 bu (dR e L [40]) fun _ L=>bu (listGo e one ks (L.length+1) [] L) fun xs L=>bu (dR e L [41]) fun _ L=>.ok (xs,L)
theorem zb {e:Nat}{L L':List Sgn}{t:List UInt8}{u:Unit}(h:dR e L t=.ok (u,L')):L'=L.tail/\isT L 0 t=true/\L'.length<L.length:=by
 unfold dR at h
 split at h
 ·rename_i hi
  injection h with h;injection h with _ h;subst h
  refine⟨rfl,hi,?_⟩
  cases L with
  |nil=>simp[isT]at hi
  |cons x L=>simp
 ·cases h
theorem GoodU.tail {L:List Sgn}(h:GoodU L):GoodU L.tail:=fun x hx=>h x (List.mem_of_mem_tail hx)
theorem GoodU.sub {L L':List Sgn}(h:GoodU L)(hs:∀y,y∈L'->y∈L):GoodU L':=fun x hx=>h x (hs x hx)
structure Atm where
 not:Bool
 rel:List UInt8
 ts:List Trm
def aG (a:Atm):List VV:=[.bool a.not,.str a.rel,.lst (a.ts.map aC) .no]
def fp (e:Nat)(L:List Sgn)(nt:Bool):PU Atm:=bu (ey e L) fun rel L=>bu (iZ e (gG e) [1,2] L) fun ts L=>.ok (⟨nt,rel,ts⟩,L)
structure Rul where
 head:Atm
 body:List Atm
def ax (x:Rul):List VV:=[.bool x.head.not,.str x.head.rel,.lst (x.head.ts.map aC) .no,.lst (x.body.map aG) .no]
def bodyGo (e:Nat):Nat->List Atm->List Sgn->PU (List Atm)
 |0,_,_=>.error (0,0)
 |f+1,out,L=>bu (ev e L out.length 8 (db [1] L || isT L 0 [33])) fun _ L=>bu (fp e (if isT L 0 [33]=true then L.tail else L) (isT L 0 [33])) fun a L=>if isT L 0 [44]=true then bodyGo e f (out++[a]) L.tail else .ok (out++[a],L)
def mj (e:Nat)(L:List Sgn):PU Rul:=
 bu (fp e L false) fun h L=>bu (if isT L 0 [58,45]=true then bodyGo e (L.length+1) [] L.tail else .ok ([],L)) fun b L=>bu (dR e L [46]) fun _ L=>.ok (⟨h,b⟩,L)
structure Dm where
 name:List UInt8
 size:Int
def dmC (d:Dm):List VV:=[.str d.name,.int .i64 d.size]
structure Dcl where
 name:List UInt8
 doms:List (List UInt8)
def az (d:Dcl):List VV:=[.str d.name,.lst (aA d.doms) .no]
structure Pgm where
 doms:List Dm
 decls:List Dcl
 rules:List Rul
def pgC (x:Pgm):List VV:=[.lst (x.doms.map dmC) .no,.lst (x.decls.map az) .no,.lst (x.rules.map ax) .no]
abbrev rsP:List (Nat×TypeId×Nat):=[(0,63,2),(1,66,2),(2,43,4)]
def El (e:Nat)(x:Pgm)(L:List Sgn):PU Pgm:=
 bu (ev e L x.doms.length 32 true) fun _ L=>bu (dR e L [100,111,109]) fun _ L=>bu (ey e L) fun n L=>bu (qZ e L) fun z L=>bu (dR e L [46]) fun _ L=>.ok (⟨x.doms++[⟨n,(z:Nat)⟩],x.decls,x.rules⟩,L)
def Dd (e:Nat)(x:Pgm)(L:List Sgn):PU Pgm:=
 bu (ev e L x.decls.length 32 true) fun _ L=>bu (dR e L [114,101,108]) fun _ L=>bu (ey e L) fun n L=>bu (iZ e (ey e) [1] L) fun ds L=>bu (dR e L [46]) fun _ L=>.ok (⟨x.doms,x.decls++[⟨n,ds⟩],x.rules⟩,L)
def Da (e:Nat)(x:Pgm)(L:List Sgn):PU Pgm:=
 bu (ev e L x.rules.length 64 (db [1] L)) fun _ L=>bu (mj e L) fun y L=>.ok (⟨x.doms,x.decls,x.rules++[y]⟩,L)
def tp (e:Nat)(x:Pgm)(L:List Sgn):PU Pgm:=if isT L 0 [100,111,109]=true then El e x L else if isT L 0 [114,101,108]=true then Dd e x L else Da e x L
theorem WkL.refl:∀x:List VV,WkL x x
 |[]=>.nil
 |x::xs=>.same x (WkL.refl xs)
theorem sZ {s:St}{o o2:Own}{T sz n m:Nat}(h:OwnOk (s.own o2 T sz n) o m):OwnOk s o m:=by
 cases o with
 |at_ x=>simp only[OwnOk,aR]at h;exact h.2
 |_=>exact h
theorem dA {s:St}{o o2:Own}{T T' sz sz' n m:Nat}(h:OwnOk (s.own o2 T sz n) o m)(h2:OwnOk s o2 n):eB ((s.own o2 T sz n).own o T' sz' m) o2 T sz n=True:=by
 apply eq_true
 cases o2 with
 |no=>exact h2
 |full=>exact h2
 |at_ y=>
  cases o with
  |at_ x=>
   simp only[OwnOk,aR]at h
   simp only[ay]at h
   have h':¬ y=x:=fun e=>h.1 e.symm
   simp[eB,St.own,St.set,h']
  |_=>simp[eB,St.own,St.set]
attribute [local go_sem] dA bD
end Go.Proofs.YteldpmgepfaiiaaGreatDoor
namespace Go.Proofs.YteldpmgepfaiiaaGreatDoor
open Go.RowKit
theorem lI (p:Sgn->Prop)(hone:∀c r a,(bF (c::r)).2≠0->p ⟨(bF (c::r)).1,(c::r).take (bF (c::r)).2,a⟩):∀(f:Nat) (l:List UInt8) (a:Nat) (out L:List Sgn),(∀x,x∈out->p x)->out.length<=4096->eH f l a out=.ok L->(∀x,x∈L->p x)/\L.length<=4096
 |0,l,at_,out,L,hg,hl,h=>by simp only[eH]at h;injection h with h;subst h;exact⟨hg,hl⟩
 |f+1,l,at_,out,L,hg,hl,h=>by
  simp only[eH]at h
  cases hd:l.drop (bI bT l)with
  |nil=>rw[hd]at h;injection h with h;subst h;exact⟨hg,hl⟩
  |cons c r=>
   rw[hd]at h
   simp only at h
   split at h
   ·exact lI p hone f _ _ _ _ hg hl h
   ·split at h
    ·cases h
    ·rename_i h0
     split at h
     ·cases h
     ·rename_i hf
      refine lI p hone f _ _ _ _ ?_ (by simp;omega) h
      intro x hx
      rcases l_.1 hx with hx|hx
      ·exact hg x hx
      ·rw[e_]at hx
       subst hx
       exact hone c r _ h0
theorem jc:∀(l:List UInt8) (acc:Nat),(∀c,c∈l->df c=true)->∃n,Lib.decFrom acc l=some n
 |[],acc,_=>⟨acc,rfl⟩
 |c::l,acc,h=>by
  have hc:=h c (by simp)
  simp only[df,Bool.and_eq_true,decide_eq_true_eq]at hc
  simp only[Lib.decFrom,Lib.digitVal,if_pos hc]
  exact jc l _ fun d hd=>h d (by simp[hd])
theorem uf {c:UInt8}{l:List UInt8}(h:∀d,d∈c::l->df d=true):∃n:Nat,Lib.atoi (c::l)=some (n:Int):=by
 have hc:=h c (by simp)
 simp only[df,Bool.and_eq_true,decide_eq_true_eq]at hc
 obtain⟨n,hn⟩:=jc (c::l) 0 h
 refine⟨n,?_⟩
 have h1:¬ c=45:=by rintro rfl;exact absurd hc.1 (by decide)
 have h2:¬ c=43:=by rintro rfl;exact absurd hc.1 (by decide)
 simp[Lib.atoi,h1,h2,Lib.decNat,hn]
theorem wy {p:UInt8->Bool}:∀(l:List UInt8),∀d,d∈l.take (bI p l)->p d=true:=by
 intro l d hd
 have:l.take (bI p l)=l.takeWhile p:=by
  unfold bI
  exact(List.prefix_iff_eq_take.1 (List.takeWhile_prefix p)).symm
 rw[this]at hd
 exact List.all_eq_true.1 List.all_takeWhile d hd
theorem nY {s:List UInt8}{L:List Sgn}(h:bG s=.ok L):GoodU L/\L.length<=4096:=by
 unfold bG at h
 split at h
 ·cases h
 ·refine lI (fun x=>x.kind=2->∃n:Nat,Lib.atoi x.text=some (n:Int)/\x.text.length<=18) (fun c r a h0 hk=>?_) _ _ _ _ _ (fun x hx=>by cases hx) (by simp) h
  simp only[bF]at hk h0 ⊢
  split at hk
  ·rename_i hd
   rw[if_pos hd]at h0 ⊢
   split at hk
   ·exact absurd hk (by decide)
   ·rename_i hn
    rw[if_neg hn]at h0 ⊢
    simp only at h0 ⊢
    have hr:=wy (p:=df) (c::r)
    obtain⟨k,hk2⟩:∃k,bI df (c::r)=k+1:=⟨bI df (c::r) - 1,by omega⟩
    rw[hk2]at hr hn ⊢
    rw[List.take_succ_cons]at hr ⊢
    obtain⟨n,hn2⟩:=uf hr
    exact⟨n,hn2,by simp only[List.length_cons,A_];omega⟩
  ·split at hk
   ·split at hk
    ·exact absurd hk (by decide)
    ·exact absurd hk (show ¬ (1:Nat)=2 by decide)
   ·exact absurd hk (show ¬ (3:Nat)=2 by decide)
end Go.Proofs.YteldpmgepfaiiaaGreatDoor
