/- Walks of functions that the claim reaches, and plain facts of them. Conditions: those in the statements. -/
import Derived.Test.YtadbggfpnhkmbaaGreatQqGpj
import Derived.Test.YtadbggfpnhkmbaaGreatQqLexj
import Derived.Lib.IndexAny
set_option linter.unusedSimpArgs false
set_option linter.unusedVariables false
namespace Go.Proofs.YtadbggfpnhkmbaaGreat
open Go.RowKit
def GS (s s':St):Prop:=∀(w0:World) (G:Gh) (w:World),Sim w0 G w s→Sim w0 G w s'
theorem GS.refl (s:St):GS s s:=fun _ _ _ h=>h
theorem GS.trans {a b c:St}(h:GS a b)(k:GS b c):GS a c:=fun w0 G w x=>k w0 G w (h w0 G w x)
theorem GS.of_fg {s s':St}(h:Fg s s'):GS s s':=fun _ _ _ x=>x.forget h
section
variable {w0 w : World} {G : Gh} {s : St} {b : Nat} {T : TypeId} {xs : List VV} {rs rs' : List (Nat × TypeId × Nat)}
theorem GS.topk (hb:s b=.obj T xs):GS s (s.set b (.pk T xs [])):=by
 intro w0 G w h
 have hob:=h.ok b
 rw[hb]at hob
 refine⟨h.below,h.K,h.cap,fun x=>?_,h.gl,?_⟩
 ·by_cases hx:x=b
  ·subst hx;rw[St.set_same];exact hob
  ·rw[St.set_other _ _ hx];exact h.ok x
 ·obtain⟨m,h1,h2,h3⟩:=h.rows
  refine⟨m,h1,fun b' i g hm=>⟨?_,(h2 b' i g hm).2⟩,fun b' T' xs' rs' i T2 sz hx hr=>?_⟩
  ·rw[St.set_other _ _ (by rintro rfl;have:=(h2 b' i _ hm).1;rw[hb]at this;cases this)]
   exact(h2 b' i g hm).1
  ·by_cases hxb:b'=b
   ·subst hxb
    rw[St.set_same]at hx
    injection hx with e1 e2 e3
    subst e3
    cases hr
   ·rw[St.set_other _ _ hxb]at hx
    exact h3 b' T' xs' rs' i T2 sz hx hr
theorem set_some {α:Type}{xs:List α}{i:Nat}{x y:α}(h:xs[i]?=some x):(xs.set i y)[i]?=some y:=by
 have:=(List.getElem?_eq_some_iff.mp h).1
 simp[this]
theorem GS.pack {i:Nat}{l:List (List VV)}{o:Own}{T':TypeId}{sz:Nat}(hb:s b=.pk T xs rs)(hi:xs[i]?=some (.lst l o))(ho:Owned s o T' sz l.length)
  (hrs:∀r,r∈rs'→r=(i,T',sz)∨(r∈rs∧r.1≠i)):GS s ((s.disown o).set b (.pk T (xs.set i (.lst l .no)) rs')):=by
 intro w0 G w h
 have hob:=h.ok b
 rw[hb]at hob
 obtain⟨hB,hn,c,hc,hsz,hx⟩:=hob
 obtain⟨m,h1,h2,h3⟩:=h.rows
 obtain⟨ho1,v,hv,hR⟩:=hx i _ hi
 have hkey:∀x,x≠b→∀c,CellOk w0.heap.size G w x c→CellOk w0.heap.size G w x c:=fun _ _ _ h=>h
 have hnb:NotOwn o b:=by
  cases o with
  |at_ g=>rintro rfl;simp only[Owned]at ho;rw[hb]at ho;cases ho
  |_=>trivial
 have hdis:∀x,x≠b→(s.disown o) x=s x∨(s.disown o) x=.free:=fun x _=>by
  cases o with
  |at_ g=>
   simp only[St.disown,St.set]
   by_cases hg:x=g<;>simp[hg]
  |_=>exact .inl rfl
 have hcell:∀j x,(xs.set i (.lst l .no))[j]?=some x→x.one=true∧∃v,c[j]?=some v∧R G v x:=fun j x hj=>by
  by_cases hji:j=i
  ·subst hji
   rw[set_some hi]at hj
   injection hj with hj
   subst hj
   exact⟨rfl,v,hv,hR.unown⟩
  ·rw[List.getElem?_set_ne (Ne.symm hji)]at hj
   exact hx j x hj
 have hmain:∃m':Nat→Nat→Option Nat,
   (∀b i b' i' g,m' b i=some g→m' b' i'=some g→b=b'∧i=i') ∧
   (∀b' i' g,m' b' i'=some g→((s.disown o).set b (.pk T (xs.set i (.lst l .no)) rs')) g=.free∧g<w.heap.size) ∧
   (∀b' i',(b'≠b∨i'≠i)→m' b' i'=m b' i')∧RowAt w0.heap.size G w m' b T (xs.set i (.lst l .no)) i T' sz:=by
  cases o with
  |no=>exact ho.elim
  |full=>
   have hl:l=[]:=List.eq_nil_of_length_eq_zero ho
   subst hl
   refine⟨m,h1,fun b' i' g hm=>⟨?_,(h2 b' i' g hm).2⟩,fun _ _ _=>rfl,c,[],hc,set_some hi,.inl ⟨rfl,?_⟩⟩
   ·have:=(h2 b' i' g hm).1
    rw[St.set_other _ _ (by rintro rfl;rw[hb]at this;cases this)]
    exact this
   ·rw[hv]
    generalize hq:VV.lst [] .full=q at hR
    cases hR with
    |emp a cap o ho'=>
     injection hq with _ hq;subst hq
     rcases ho' with e|⟨_,rfl,rfl⟩
     ·cases e
     ·rfl
    |lst b' off len cap sz' xs' o f hl hc' hz h1' hK hR' ho'=>
     injection hq with hq1 hq2;subst hq1;subst hq2
     rcases ho' with e|⟨_,e1,e2⟩|⟨e,_⟩
     ·cases e
     ·simp at hl;omega
     ·cases e
    |_=>cases hq
  |at_ g=>
   have hgv:s g=.vec T' sz l.length:=ho
   have hgb:g≠b:=fun e=>(hnb:¬ b=g) e.symm
   refine⟨fun b' i'=>if b'=b∧i'=i then some g else m b' i',fun b1 i1 b2 i2 g' e1 e2=>?_,fun b' i' g' hm=>?_,fun b' i' hne=>?_,c,l,hc,set_some hi,.inr ?_⟩
   ·by_cases hA:b1=b∧i1=i
    ·by_cases hB':b2=b∧i2=i
     ·exact⟨hA.1.trans hB'.1.symm,hA.2.trans hB'.2.symm⟩
     ·simp only[if_pos hA,if_neg hB']at e1 e2
      injection e1 with e1;subst e1
      have:=(h2 _ _ _ e2).1;rw[hgv]at this;cases this
    ·by_cases hB':b2=b∧i2=i
     ·simp only[if_neg hA,if_pos hB']at e1 e2
      injection e2 with e2;subst e2
      have:=(h2 _ _ _ e1).1;rw[hgv]at this;cases this
     ·simp only[if_neg hA,if_neg hB']at e1 e2
      exact h1 _ _ _ _ _ e1 e2
   ·by_cases hA:b'=b∧i'=i
    ·simp only[if_pos hA]at hm
     injection hm with hm;subst hm
     rw[St.set_other _ _ hgb]
     refine⟨by simp[St.disown,St.set],h.lt (by rw[hgv];simp)⟩
    ·simp only[if_neg hA]at hm
     obtain⟨a1,a2⟩:=h2 _ _ _ hm
     refine⟨?_,a2⟩
     rw[St.set_other _ _ (by rintro rfl;rw[hb]at a1;cases a1)]
     simp only[St.disown,St.set]
     by_cases hgg:g'=g
     ·simp[hgg]
     ·simp[hgg,a1]
   ·have:¬ (b'=b∧i'=i):=by rintro⟨e1,e2⟩;rcases hne with h|h;exact h e1;exact h e2
    simp only[if_neg this]
   ·have hvec:=h.ok g
    rw[hgv]at hvec
    generalize hq:VV.lst l (.at_ g)=q at hR
    cases hR with
    |emp a cap o ho'=>
     injection hq with _ hq;subst hq
     rcases ho' with e|⟨e,_⟩<;>cases e
    |lst b' off len cap sz' xs' o f hl hc' hz h1' hK hR' ho'=>
     injection hq with hq1 hq2;subst hq1;subst hq2
     rcases ho' with e|⟨e,_⟩|⟨e,e1,e2⟩
     ·cases e
     ·cases e
     ·injection e with e
      subst e;subst e1
      subst hl
      exact⟨g,cap,by simp,hv,.lst g 0 _ cap sz' l (.at_ g) f rfl hc' hz h1' hK hR' (.inr (.inr ⟨rfl,rfl,e2⟩)),hvec⟩
    |_=>cases hq
 obtain⟨m',n1,n2,n3,n4⟩:=hmain
 refine⟨h.below,h.K,h.cap,fun x=>?_,h.gl,m',n1,n2,fun b' T2 xs2 rs2 j T3 sz3 hb' hr=>?_⟩
 ·by_cases hxb:x=b
  ·subst hxb
   rw[St.set_same]
   exact⟨hB,hn,c,hc,by rw[hsz,List.length_set],hcell⟩
  ·rw[St.set_other _ _ hxb]
   rcases hdis x hxb with e|e
   ·rw[e];exact h.ok x
   ·rw[e];trivial
 ·by_cases hxb:b'=b
  ·subst hxb
   rw[St.set_same]at hb'
   injection hb' with e1 e2 e3
   subst e1;subst e2;subst e3
   rcases hrs _ hr with e|⟨hr1,hne⟩
   ·injection e with e1 e2;injection e2 with e2 e3
    subst e1;subst e2;subst e3
    exact n4
   ·obtain⟨c',l',d1,d2,d3⟩:=h3 _ _ _ _ _ _ _ hb hr1
    exact⟨c',l',d1,by rw[List.getElem?_set_ne (Ne.symm hne)];exact d2,by rw[n3 b' j (.inr hne)];exact d3⟩
  ·rw[St.set_other _ _ hxb]at hb'
   have hb2:s b'=.pk T2 xs2 rs2:=by
    rcases hdis b' hxb with e|e
    ·rw[← e];exact hb'
    ·rw[e]at hb';cases hb'
   obtain⟨c',l',d1,d2,d3⟩:=h3 _ _ _ _ _ _ _ hb2 hr
   exact⟨c',l',d1,d2,by rw[n3 b' j (.inl hxb)];exact d3⟩
theorem Sim.unpack (h:Sim w0 G w s){i:Nat}{l:List (List VV)}{T':TypeId}{sz:Nat}(hb:s b=.pk T xs rs)(hi:xs[i]?=some (.lst l .no))(hr:(i,T',sz)∈rs)
  (hrs:∀r,r∈rs'→r∈rs∧r.1≠i):∃o,OwnOk s o l.length∧NotOwn o b∧Sim w0 G w ((s.own o T' sz l.length).set b (.pk T (xs.set i (.lst l o)) rs')):=by
 have hob:=h.ok b
 rw[hb]at hob
 obtain⟨hB,hn,c,hc,hsz,hx⟩:=hob
 obtain⟨m,h1,h2,h3⟩:=h.rows
 obtain⟨c',l',d1,d2,d3⟩:=h3 _ _ _ _ _ _ _ hb hr
 rw[hc]at d1
 injection d1 with d1;injection d1 with d1;subst d1
 rw[hi]at d2
 injection d2 with d2;injection d2 with d2;subst d2
 have hcell:∀o v,c[i]?=some v→R G v (.lst l o)→∀j x,(xs.set i (.lst l o))[j]?=some x→x.one=true∧∃v,c[j]?=some v∧R G v x:=fun o v hv hR j x hj=>by
  by_cases hji:j=i
  ·subst hji
   rw[set_some hi]at hj
   injection hj with hj
   subst hj
   exact⟨rfl,v,hv,hR⟩
  ·rw[List.getElem?_set_ne (Ne.symm hji)]at hj
   exact hx j x hj
 rcases d3 with ⟨hl,hv⟩|⟨g,cap,hm,hv,hR,hvec⟩
 ·subst hl
  refine⟨.full,rfl,trivial,h.below,h.K,h.cap,fun x=>?_,h.gl,m,h1,fun b' i' g hm=>⟨?_,(h2 b' i' g hm).2⟩,fun b' T2 xs2 rs2 j T3 sz3 hb' hr'=>?_⟩
  ·by_cases hxb:x=b
   ·subst hxb
    rw[St.set_same]
    exact⟨hB,hn,c,hc,by rw[hsz,List.length_set],hcell .full _ hv (.emp _ _ _ (.inr ⟨rfl,rfl,rfl⟩))⟩
   ·rw[St.set_other _ _ hxb];exact h.ok x
  ·have:=(h2 b' i' g hm).1
   rw[St.set_other _ _ (by rintro rfl;rw[hb]at this;cases this)]
   exact this
  ·by_cases hxb:b'=b
   ·subst hxb
    rw[St.set_same]at hb'
    injection hb' with e1 e2 e3
    subst e1;subst e2;subst e3
    obtain⟨hr1,hne⟩:=hrs _ hr'
    obtain⟨c',l',d1,d2,d3⟩:=h3 _ _ _ _ _ _ _ hb hr1
    exact⟨c',l',d1,by rw[List.getElem?_set_ne (Ne.symm hne)];exact d2,d3⟩
   ·rw[St.set_other _ _ hxb]at hb'
    exact h3 _ _ _ _ _ _ _ hb' hr'
 ·obtain⟨hgf,hgl⟩:=h2 _ _ _ hm
  have hgb:g≠b:=by rintro rfl;rw[hb]at hgf;cases hgf
  refine⟨.at_ g,hgf,fun e=>hgb e.symm,h.below,h.K,h.cap,fun x=>?_,h.gl,fun b' i'=>if b'=b∧i'=i then none else m b' i',fun b1 i1 b2 i2 g' e1 e2=>?_,fun b' i' g' hm'=>?_,fun b' T2 xs2 rs2 j T3 sz3 hb' hr'=>?_⟩
  ·by_cases hxb:x=b
   ·subst hxb
    rw[St.set_same]
    exact⟨hB,hn,c,hc,by rw[hsz,List.length_set],hcell _ _ hv hR⟩
   ·rw[St.set_other _ _ hxb]
    simp only[St.own,St.set]
    by_cases hxg:x=g
    ·subst hxg;simp only[if_true];exact hvec
    ·simp only[if_neg hxg];exact h.ok x
  ·by_cases hA:b1=b∧i1=i
   ·simp only[if_pos hA]at e1;cases e1
   ·by_cases hB':b2=b∧i2=i
    ·simp only[if_pos hB']at e2;cases e2
    ·simp only[if_neg hA,if_neg hB']at e1 e2
     exact h1 _ _ _ _ _ e1 e2
  ·by_cases hA:b'=b∧i'=i
   ·simp only[if_pos hA]at hm';cases hm'
   ·simp only[if_neg hA]at hm'
    obtain⟨a1,a2⟩:=h2 _ _ _ hm'
    refine⟨?_,a2⟩
    rw[St.set_other _ _ (by rintro rfl;rw[hb]at a1;cases a1)]
    simp only[St.own,St.set]
    rw[if_neg]
    ·exact a1
    ·rintro rfl
     exact hA (h1 _ _ _ _ _ hm' hm)
  ·by_cases hxb:b'=b
   ·subst hxb
    rw[St.set_same]at hb'
    injection hb' with e1 e2 e3
    subst e1;subst e2;subst e3
    obtain⟨hr1,hne⟩:=hrs _ hr'
    obtain⟨c',l',d1,d2,d3⟩:=h3 _ _ _ _ _ _ _ hb hr1
    refine⟨c',l',d1,by rw[List.getElem?_set_ne (Ne.symm hne)];exact d2,?_⟩
    have hh:(if b'=b'∧j=i then none else m b' j)=m b' j:=if_neg (fun hh=>hne hh.2)
    rcases d3 with d3|⟨g1,cap1,d3,d4⟩
    ·exact .inl d3
    ·exact .inr ⟨g1,cap1,hh.trans d3,d4⟩
   ·rw[St.set_other _ _ hxb]at hb'
    have hb2:s b'=.pk T2 xs2 rs2:=by
     simp only[St.own,St.set]at hb'
     by_cases hxg:b'=g
     ·subst hxg;simp at hb'
     ·simpa only[if_neg hxg]using hb'
    obtain⟨c',l',d1,d2,d3⟩:=h3 _ _ _ _ _ _ _ hb2 hr'
    refine⟨c',l',d1,d2,?_⟩
    simp only[if_neg (fun hh:b'=b∧j=i=>hxb hh.1)]
    exact d3
theorem R.wkrow {v:Value}{l l':List (List VV)}{o:Own}(hl:l'.length=l.length)(hw:∀(i:Nat) (x':List VV),l'[i]?=some x'→∃x,l[i]?=some x∧WkL x x')(h:R G v (.lst l o)):R G v (.lst l' o):=by
 generalize hq:VV.lst l o=q at h
 cases h with
 |emp a cap o2 ho=>
  injection hq with hq1 hq2;subst hq1;subst hq2
  obtain rfl:l'=[]:=List.eq_nil_of_length_eq_zero hl
  exact .emp _ _ _ ho
 |lst b' off len cap sz' xs' o f hl2 hc' hz h1' hK hR' ho'=>
  injection hq with hq1 hq2;subst hq1;subst hq2
  refine .lst b' off len cap sz' l' _ f (hl.trans hl2) hc' (fun x hx=>?_) (fun x hx y hy=>?_) hK (fun i j x y hx hy=>?_) ho'
  ·obtain⟨i,hi⟩:=List.getElem?_of_mem hx
   obtain⟨x0,h0,h2⟩:=hw i x hi
   rw[← hz x0 (List.mem_of_getElem? h0),h2.len]
  ·obtain⟨i,hi⟩:=List.getElem?_of_mem hx
   obtain⟨j,hj⟩:=List.getElem?_of_mem hy
   obtain⟨x0,h0,h2⟩:=hw i x hi
   obtain⟨y0,h3,_,h4⟩:=h2.get j y hj
   exact h4 (h1' x0 (List.mem_of_getElem? h0) y0 (List.mem_of_getElem? h3))
  ·obtain⟨x0,h0,h2⟩:=hw i x hx
   obtain⟨y0,h3,h4,_⟩:=h2.get j y hy
   exact h4 _ _ (hR' i j x0 y0 h0 h3)
 |_=>cases hq
theorem GS.wkrow {i:Nat}{l l':List (List VV)}(hb:s b=.pk T xs rs)(hi:xs[i]?=some (.lst l .no))(hl:l'.length=l.length)(hw:∀(i:Nat) (x':List VV),l'[i]?=some x'→∃x,l[i]?=some x∧WkL x x') :
  GS s (s.set b (.pk T (xs.set i (.lst l' .no)) rs)):=by
 intro w0 G w h
 have hob:=h.ok b
 rw[hb]at hob
 obtain⟨hB,hn,c,hc,hsz,hx⟩:=hob
 obtain⟨m,h1,h2,h3⟩:=h.rows
 refine⟨h.below,h.K,h.cap,fun x=>?_,h.gl,m,h1,fun b' i' g hm=>⟨?_,(h2 b' i' g hm).2⟩,fun b' T2 xs2 rs2 j T3 sz3 hb' hr=>?_⟩
 ·by_cases hxb:x=b
  ·subst hxb
   rw[St.set_same]
   refine⟨hB,hn,c,hc,by rw[hsz,List.length_set],fun j y hj=>?_⟩
   by_cases hji:j=i
   ·subst hji
    rw[set_some hi]at hj
    injection hj with hj
    subst hj
    obtain⟨_,v,hv,hR⟩:=hx j _ hi
    exact⟨rfl,v,hv,hR.wkrow hl hw⟩
   ·rw[List.getElem?_set_ne (Ne.symm hji)]at hj
    exact hx j y hj
  ·rw[St.set_other _ _ hxb];exact h.ok x
 ·have:=(h2 b' i' g hm).1
  rw[St.set_other _ _ (by rintro rfl;rw[hb]at this;cases this)]
  exact this
 ·by_cases hxb:b'=b
  ·subst hxb
   rw[St.set_same]at hb'
   injection hb' with e1 e2 e3
   subst e1;subst e2;subst e3
   obtain⟨c',l0,d1,d2,d3⟩:=h3 _ _ _ _ _ _ _ hb hr
   by_cases hji:j=i
   ·subst hji
    rw[hi]at d2
    injection d2 with d2;injection d2 with d2;subst d2
    refine⟨c',l',d1,set_some hi,?_⟩
    rcases d3 with ⟨d3,d4⟩|⟨g,cap,e1,e2,e3,e4⟩
    ·subst d3
     exact .inl ⟨List.eq_nil_of_length_eq_zero hl,d4⟩
    ·refine .inr ⟨g,cap,e1,?_,?_,?_⟩
     ·rw[hl];exact e2
     ·have:=e3.wkrow hl hw
      rw[hl];exact this
     ·rw[hl];exact e4
   ·exact⟨c',l0,d1,by rw[List.getElem?_set_ne (Ne.symm hji)];exact d2,d3⟩
  ·rw[St.set_other _ _ hxb]at hb'
   exact h3 _ _ _ _ _ _ _ hb' hr
end
section
variable {P : Program} {N : Nat} {D : List Deferred} {k : List Itm} {Q : Pst} {env : Env} {s : St} {c : Code}
theorem ownok_pk {o:Own}{n b:Nat}{T:TypeId}{xs:List VV}{rs:List (Nat×TypeId×Nat)}:OwnOk (s.set b (.pk T xs rs)) o n=(NotOwn o b∧OwnOk s o n):=by
 cases o with
 |at_ x=>
  simp only[OwnOk,NotOwn,St.set]
  by_cases h:x=b
  ·simp[h]
  ·have h':¬ b=x:=fun e=>h e.symm
   simp[h,h']
 |_=>simp[OwnOk,NotOwn]
theorem Kp_gs {s':St}(hg:GS s s')(h:Kp P N D (.code c::k) Q .norm env s'):Kp P N D (.code c::k) Q .norm env s:=
 fun w0 G w a hfr hD hS=>h w0 G w a hfr hD (hg _ _ _ hS)
theorem Kp_unpk (b i:Nat){T:TypeId}{xs:List VV}{rs:List (Nat×TypeId×Nat)}{l:List (List VV)}{T':TypeId}{sz:Nat}(rs':List (Nat×TypeId×Nat))
  (hb:s b=.pk T xs rs) (hi:xs[i]?=some (.lst l .no)) (hr:(i,T',sz)∈rs) (hrs:∀r,r∈rs'→r∈rs∧r.1≠i)
  (h:∀o,OwnOk s o l.length→NotOwn o b→Kp P N D (.code c::k) Q .norm env ((s.own o T' sz l.length).set b (.pk T (xs.set i (.lst l o)) rs'))):Kp P N D (.code c::k) Q .norm env s:=
 fun w0 G w a hfr hD hS=>let ⟨o,h1,h2,h3⟩:=hS.unpack hb hi hr hrs;h o h1 h2 w0 G w a hfr hD h3
theorem SCalls.gs {f:FuncId}{xs:List VV}{Q:SEnd→St→Prop}(h:SCalls P f xs s fun e t=>∃t',GS t t'∧Q e t'):SCalls P f xs s Q:=by
 intro w0 G w vs hS hR
 refine(h w0 G w vs hS hR).mono ?_
 rintro e w' ⟨G',s',x,hG,hS',hE,t',hg,hq⟩
 exact⟨G',t',x,hG,hg _ _ _ hS',hE,hq⟩
theorem G_loopS (I:Nat→Env→St→Prop)(n:Nat)(h0:∃s0,GS s s0∧I n env s0)
  (hr:∀n env s,I n env s→Kp P N D (.code c::.back (fun env' s'=>∃s'',GS s' s''∧∃m,m<n∧I m env' s'')::k) Q .norm env s) :
  Kp P N D (.code (.loop c)::k) Q .norm env s:=by
 obtain⟨s0,hf,h0⟩:=h0
 refine Kp_gs hf ?_
 refine L_loop (fun n env s'=>∃s'',GS s' s''∧I n env s'') n ⟨s0,GS.refl _,h0⟩ ?_
 rintro n env s' ⟨s'',hf,hI⟩
 refine Kp_gs hf ?_
 refine Kp_back_mono ?_ (hr n env s'' hI)
 rintro env s ⟨s3,h1,m,hm,h2⟩
 exact⟨m,hm,s3,h1,h2⟩
end
theorem set_free_self {s:St}{b:Nat}(h:s b=.free):s.set b .free=s:=St.set_self s b .free h
theorem row_freed {s:St}{b b':Nat}(h:b'=b∨s b'=.free):(s.set b .free) b'=.free:=by
 by_cases e:b'=b
 ·subst e;exact St.set_same _ _ _
 ·rw[St.set_other _ _ e];rcases h with h|h
  ·exact absurd h e
  ·exact h
section
variable {k : VV → St → Prop} {e : TypeId} {q : QI} {b n : Nat} {xs : List VV} {ys : List (List VV)} {s S' : St}
theorem W_appM (h:∀b',S' b'=.free→k (.mrw b' (n+ys.length)) (S'.set b' (.row e q.sz (xs++ys.flatten))))
  (hb:s b=.row e q.sz xs:=by((try simp(disch:=first|assumption|omega) only[go_sem,seval, *]);rfl))
  (hl:xs.length=n * q.sz:=by first|assumption|omega|((try simp only[go_sem,List.length_map, *]);first|rfl|omega))
  (hS:s.set b .free=S':=by((try simp(disch:=first|assumption|omega) only[go_sem,seval,set_free_self, *]);rfl))
  (h1:(n+ys.length) * q.bt≤140737488355328:=by((try simp only[go_sem, *]);omega))
  (h2:n+ys.length≤9223372036854775807:=by((try simp only[go_sem, *]);omega))
  (hy:∀y,y∈ys→y.length=q.sz:=by first|assumption|(intro y hy;simp only[List.mem_singleton]at hy;subst hy;first|rfl|(simp only[go_sem];done)|(simp;done)))
  (hz:q.zok=true:=by rfl):vappendM k e q b n ys s:=
 ⟨xs,hb,hl,h1,h2,hy,hz,fun b' hb'=>by rw[hS];exact h b' (hS ▸ row_freed hb')⟩
theorem W_app0 (h:∀b',s b'=.free→k (.mrw b' ys.length) (s.set b' (.row e q.sz ys.flatten)))
  (h0:ys≠[]:=by first|assumption|simp)
  (h1:ys.length * q.bt≤140737488355328:=by((try simp only[go_sem, *]);omega))
  (h2:ys.length≤9223372036854775807:=by((try simp only[go_sem, *]);omega))
  (hy:∀y,y∈ys→y.length=q.sz:=by first|assumption|(intro y hy;simp only[List.mem_singleton]at hy;subst hy;first|rfl|(simp only[go_sem];done)|(simp;done)))
  (hz:q.zok=true:=by rfl):vappend0 k e q ys s:=⟨h0,h1,h2,hy,hz,h⟩
end
def GSg (s s':St):Prop:=∀(w0:World) (G:Gh) (w:World),Sim w0 G w s→∃G',G.le G'∧Sim w0 G' w s'
theorem GSg.of_gs {s s':St}(h:GS s s'):GSg s s':=fun w0 G w a=>⟨G,Gh.le.refl G,h w0 G w a⟩
theorem GSg.of_fg {s s':St}(h:Fg s s'):GSg s s':=.of_gs (.of_fg h)
theorem GSg.refl (s:St):GSg s s:=.of_gs (GS.refl s)
theorem GSg.trans {a b c:St}(h:GSg a b)(k:GSg b c):GSg a c:=fun w0 G w x=>by
 obtain⟨G1,h1,h2⟩:=h w0 G w x
 obtain⟨G2,h3,h4⟩:=k w0 G1 w h2
 exact⟨G2,h1.trans h3,h4⟩
section
variable {w0 w : World} {G : Gh} {s : St} {b g i n : Nat} {T T' : TypeId} {xs cs : List VV}
theorem Sim.frzR (h:Sim w0 G w s)(hb:s g=.row T 1 xs) :
  ∃G',G.le G'∧Sim w0 G' w (s.set g .free)∧(∀(i:Nat) (y:VV),xs[i]?=some y→y.one=true∧∃v,G'.K g i=some v∧R G' v y)∧∀b',b'≠g→∀i,G'.K b' i=G.K b' i:=by
 have hok:=h.ok g
 rw[hb]at hok
 obtain⟨hB,hn,c,cap,hh,hq,hs,hl,hm,hx⟩:=hok
 have hle:G.le ⟨fun b' i=>if b'=g then(if i<xs.length then c[i]? else none)else G.K b' i,G.cap⟩:=⟨fun b' i v hv=>by
  by_cases e:b'=g
  ·subst e;rw[hn i]at hv;cases hv
  ·simp only[if_neg e];exact hv,fun _ _ hc=>hc⟩
 refine⟨_,hle,⟨h.below,fun b' i v hv=>?_,h.cap,fun b'=>?_,h.gl,?_⟩,fun i y hy=>?_,fun b' hb' i=>if_neg hb'⟩
 ·by_cases e:b'=g
  ·subst e
   simp only[if_true]at hv
   split at hv
   ·simp[World.cell?,hh,hv]
   ·cases hv
  ·simp only[if_neg e]at hv
   exact h.K _ _ _ hv
 ·by_cases e:b'=g
  ·subst e;rw[St.set_same];trivial
  ·rw[St.set_other _ _ e]
   exact CellOk.keep (h.ok b') rfl hle (fun i=>if_neg e)
 ·refine Rows.keep h.rows hle (Nat.le_refl _) (fun g' hg hs=>?_) (fun b' T' xs' rs hb'=>?_)
  ·have hne:g'≠g:=by rintro rfl;rw[hb]at hs;cases hs
   exact⟨by rw[St.set_other _ _ hne];exact hs,rfl,fun i=>if_neg hne⟩
  ·have hne:b'≠g:=by rintro rfl;rw[St.set_same]at hb';cases hb'
   rw[St.set_other _ _ hne]at hb'
   exact⟨xs',rs,hb',fun r hr=>⟨hr,rfl,fun c hc=>⟨c,hc,rfl⟩⟩⟩
 ·obtain⟨h1,v,hv,hr⟩:=hx i y hy
  have hi:=(List.getElem?_eq_some_iff.1 hy).1
  exact⟨h1,v,by simp only[if_true,if_pos hi];exact hv,hr.mono hle⟩
theorem R.frz {G:Gh}{v:Value}(hn:xs.length=n)(hK:∀(i:Nat) (y:VV),xs[i]?=some y→y.one=true∧∃v,G.K g i=some v∧R G v y)(hr:R G v (.mrw g n)):R G v (.lst (xs.map fun y=>[y]) .no):=by
 cases hr with
 |mrw b' n' cap sz hq hc=>
  rcases Nat.eq_zero_or_pos n with h0|hpos
  ·subst h0
   have:xs=[]:=List.eq_nil_of_length_eq_zero hn
   subst this
   exact .emp _ _ _ (.inl rfl)
  ·have hv:∀i,i<n→∃v,G.K g i=some v∧∀y,xs[i]?=some y→R G v y:=fun i hi=>by
    obtain⟨_,v,h1,h2⟩:=hK i xs[i] (List.getElem?_eq_getElem (by omega))
    exact⟨v,h1,fun y hy=>by rw[List.getElem?_eq_getElem (by omega)]at hy;injection hy with hy;exact hy ▸ h2⟩
   refine .lst g 0 n cap 1 _ .no (fun i _=>(G.K g i).getD default) (by rw[List.length_map];exact hn) hc ?_ ?_ ?_ ?_ (.inl rfl)
   ·intro x hx
    obtain⟨y,_,rfl⟩:=List.mem_map.1 hx
    rfl
   ·intro x hx y hy
    obtain⟨z,hz,rfl⟩:=List.mem_map.1 hx
    rw[List.mem_singleton]at hy
    subst hy
    obtain⟨i,hi⟩:=List.mem_iff_getElem?.1 hz
    exact(hK i y hi).1
   ·intro i j hi hj
    obtain⟨v,h1,_⟩:=hv i hi
    have:j=0:=by omega
    subst this
    simp[h1]
   ·intro i j x y hx hy
    rw[List.getElem?_map]at hx
    obtain⟨z,hz,rfl⟩:=Option.map_eq_some_iff.1 hx
    have hi:i<n:=by have:=(List.getElem?_eq_some_iff.1 hz).1;omega
    obtain⟨v,h1,h2⟩:=hv i hi
    have hj:j=0:=by
     have:=(List.getElem?_eq_some_iff.1 hy).1
     simp at this;exact this
    subst hj
    simp at hy
    subst hy
    rw[h1]
    exact h2 z hz
theorem GSg.frz (hb:s b=.obj T cs)(hi:cs[i]?=some (.mrw g n))(hg:s g=.row T' 1 xs)(hn:xs.length=n) :
  GSg s ((s.set g .free).set b (.obj T (cs.set i (.lst (xs.map fun y=>[y]) .no)))):=by
 intro w0 G w h
 have hne:¬ b=g:=by rintro rfl;rw[hb]at hg;cases hg
 obtain⟨G',hle,hS,hK,_⟩:=h.frzR hg
 have hob:=hS.ok b
 rw[St.set_other _ _ hne,hb]at hob
 obtain⟨hB,hnK,c,hc,hsz,hx⟩:=hob
 refine⟨G',hle,hS.below,hS.K,hS.cap,fun x=>?_,hS.gl,hS.rows.keep' (Gh.le.refl _) (Nat.le_refl _) (fun g' _ hg'=>⟨?_,rfl,fun _=>rfl⟩) (fun b' T xs rs hb'=>?_)⟩
 ·by_cases hxb:x=b
  ·subst hxb
   rw[St.set_same]
   refine⟨hB,hnK,c,hc,by rw[hsz,List.length_set],fun j y hj=>?_⟩
   by_cases hji:j=i
   ·subst hji
    rw[set_some hi]at hj
    injection hj with hj
    subst hj
    obtain⟨_,v,hv,hr⟩:=hx j _ hi
    exact⟨rfl,v,hv,hr.frz hn hK⟩
   ·rw[List.getElem?_set_ne (Ne.symm hji)]at hj
    exact hx j y hj
  ·rw[St.set_other _ _ hxb];exact hS.ok x
 ·by_cases e:g'=b
  ·subst e;rw[St.set_other _ _ hne,hb]at hg';cases hg'
  ·rw[St.set_other _ _ e];exact hg'
 ·by_cases e:b'=b
  ·subst e;rw[St.set_same]at hb';cases hb'
  ·rw[St.set_other _ _ e]at hb';exact⟨hb',rfl⟩
theorem GS.rawnil (hb:s b=.obj T cs)(hi:cs[i]?=some (.lst [] .full)):GS s (s.set b (.obj T (cs.set i (.raw (.slice none 0 0))))):=by
 intro w0 G w h
 have hob:=h.ok b
 rw[hb]at hob
 obtain⟨hB,hnK,c,hc,hsz,hx⟩:=hob
 refine⟨h.below,h.K,h.cap,fun x=>?_,h.gl,h.rows.keep' (Gh.le.refl _) (Nat.le_refl _) (fun g' _ hg'=>⟨?_,rfl,fun _=>rfl⟩) (fun b' T xs rs hb'=>?_)⟩
 ·by_cases hxb:x=b
  ·subst hxb
   rw[St.set_same]
   refine⟨hB,hnK,c,hc,by rw[hsz,List.length_set],fun j y hj=>?_⟩
   by_cases hji:j=i
   ·subst hji
    rw[set_some hi]at hj
    injection hj with hj
    subst hj
    obtain⟨_,v,hv,hr⟩:=hx j _ hi
    refine⟨rfl,v,hv,?_⟩
    generalize hq:VV.lst [] .full=q at hr
    cases hr with
    |emp a cap o ho=>
     injection hq with _ hq;subst hq
     rcases ho with e|⟨_,rfl,rfl⟩
     ·cases e
     ·exact .raw _
    |lst b' off len cap sz' xs' o f hl hc' hz h1' hK hR' ho'=>
     injection hq with hq1 hq2;subst hq1;subst hq2
     rcases ho' with e|⟨_,e1,e2⟩|⟨e,_⟩
     ·cases e
     ·simp at hl;omega
     ·cases e
    |_=>cases hq
   ·rw[List.getElem?_set_ne (Ne.symm hji)]at hj
    exact hx j y hj
  ·rw[St.set_other _ _ hxb];exact h.ok x
 ·by_cases e:g'=b
  ·subst e;rw[hb]at hg';cases hg'
  ·rw[St.set_other _ _ e];exact hg'
 ·by_cases e:b'=b
  ·subst e;rw[St.set_same]at hb';cases hb'
  ·rw[St.set_other _ _ e]at hb';exact⟨hb',rfl⟩
end
section
variable {P : Program} {N : Nat} {D : List Deferred} {k : List Itm} {Q : Pst} {env : Env} {s : St} {c : Code}
theorem Kp_gsg {s':St}(hg:GSg s s')(h:Kp P N D (.code c::k) Q .norm env s'):Kp P N D (.code c::k) Q .norm env s:=by
 intro w0 G w a hfr hD hS
 obtain⟨G',hle,hS'⟩:=hg _ _ _ hS
 exact wp_mono (h w0 G' w a ⟨hfr.size,fun i=>(hfr.rel i).mono hle⟩ hD hS') fun e a w=>Up.back hle
theorem SCalls.pre {f:FuncId}{xs:List VV}{Q:SEnd→St→Prop}{s0:St}(hg:GSg s0 s)(h:SCalls P f xs s Q):SCalls P f xs s0 Q:=by
 intro w0 G w vs hS hR
 obtain⟨G',hle,hS'⟩:=hg _ _ _ hS
 refine(h w0 G' w vs hS' ⟨hR.1,fun j v y hv hy=>(hR.2 j v y hv hy).mono hle⟩).mono ?_
 rintro e w' ⟨G2,s',x,hG,hS2,hE,hq⟩
 exact⟨G2,s',x,hle.trans hG,hS2,hE,hq⟩
end
end Go.Proofs.YtadbggfpnhkmbaaGreat
set_option maxRecDepth 100000
namespace Go.Proofs.YtadbggfpnhkmbaaGreat
open Go.RowKit
theorem u8_eq {c d:UInt8}:((c.toNat:Int)=(d.toNat:Int))=(c=d):=by
 apply propext
 rw[Int.natCast_inj,UInt8.toNat_inj]
theorem Rdigit_S (c:UInt8)(s:St):SRet Tryz.prog 68 [.int .u8 c.toNat] s (.bool (digB c)) s:=by
 refine G_enter Tryz.func68 rfl Tryz.ntmps68 rfl fun Q hQ hQe=>?_
 (repeat'(first|refine Ctl ?_|((with_reducible refine Kof.use hK ?_);clear hK hE K E)|((with_reducible refine Eof.use hE ?_);(try clear hK hE K E))|((with_reducible refine W_cond (fun h=>?_) (fun h=>?_))<;>(try(exfalso;first|assumption|omega)))|((first|(with_reducible first|refine G_region fun K E hK hE=>?_|refine W_if ?_|refine W_ifS ?_|refine W_and ?_)|((with_reducible refine W_gd (fun h=>?_) (fun h=>?_))<;>(try(exfalso;first|assumption|omega))))<;>(try simp(disch:=first|assumption|omega) only[go_sem,seval, *]))))
 all_goals(first|refine W_ret res68 hQ ?_|refine W_norm res68 hQ ?_|refine G_pan hQ ?_)
 all_goals(refine⟨_,_,Wk.of_eq ?_,?_,rfl,rfl⟩)
 all_goals first|exact Fg.refl _|skip
 all_goals(simp only[VV.bool.injEq,digB];grind)
theorem Rpart_S (c:UInt8)(s:St):SRet Tryz.prog 70 [.int .u8 c.toNat] s (.bool (partB c)) s:=by
 refine G_enter Tryz.func70 rfl Tryz.ntmps70 rfl fun Q hQ hQe=>?_
 (repeat'(first|refine Ctl ?_|((with_reducible refine Kof.use hK ?_);clear hK hE K E)|((with_reducible refine Eof.use hE ?_);(try clear hK hE K E))|((with_reducible refine W_cond (fun h=>?_) (fun h=>?_))<;>(try(exfalso;first|assumption|omega)))|((first|(with_reducible first|refine G_region fun K E hK hE=>?_|refine call_ret can68 (Rdigit_S _ _) ?_|refine W_if ?_|refine W_ifS ?_|refine W_and ?_)|((with_reducible refine W_gd (fun h=>?_) (fun h=>?_))<;>(try(exfalso;first|assumption|omega))))<;>(try simp(disch:=first|assumption|omega) only[go_sem,seval, *]))))
 all_goals(first|refine W_ret res70 hQ ?_|refine W_norm res70 hQ ?_|refine G_pan hQ ?_)
 all_goals(refine⟨_,_,Wk.of_eq ?_,?_,rfl,rfl⟩)
 all_goals first|exact Fg.refl _|skip
 all_goals(simp only[VV.bool.injEq,partB,digB];grind)
def rpB (d:Bool)(c:UInt8):Bool:=partB c && (!d || digB c)
theorem digB_part {c:UInt8}(h:digB c=true):partB c=true:=by simp[partB,h]
theorem rpB_t (c:UInt8):rpB true c=digB c:=by
 unfold rpB
 cases h:digB c with
 |true=>simp[digB_part h]
 |false=>simp
theorem rpB_f (c:UInt8):rpB false c=partB c:=by simp[rpB]
theorem Rrun_S (l:List UInt8)(a:Nat)(d:Bool)(s:St)(ha:a≤l.length)(hl:l.length≤9223372036854775000) :
    SRet Tryz.prog 69 [.str l,.int .i64 a,.bool d] s (.int .i64 (runN (rpB d) (l.drop a))) s:=by
  refine G_enter Tryz.func69 rfl Tryz.ntmps69 rfl fun Q hQ hQe=>?_
  (repeat'(first|refine Ctl ?_|((with_reducible refine Kof.use hK ?_);clear hK hE K E)|((with_reducible refine Eof.use hE ?_);(try clear hK hE K E))|((with_reducible refine W_cond (fun h=>?_) (fun h=>?_))<;>(try(exfalso;first|assumption|omega)))|((first|(with_reducible first|refine G_region fun K E hK hE=>?_|refine call_ret can68 (Rdigit_S _ _) ?_|refine call_ret can70 (Rpart_S _ _) ?_|refine W_if ?_|refine W_ifS ?_|refine W_and ?_)|((with_reducible refine W_gd (fun h=>?_) (fun h=>?_))<;>(try(exfalso;first|assumption|omega))))<;>(try simp(disch:=first|assumption|omega) only[go_sem,seval, *]))))
  have hle:=runN_le (rpB d) (l.drop a)
  rw[List.length_drop]at hle
  refine L_loop (fun m env s'=>∃k:Nat,k≤runN (rpB d) (l.drop a)∧m+k=runN (rpB d) (l.drop a)∧s'=s∧env 0=.str l∧env 1=.int .i64 a∧env 2=.bool d∧env 7=.int .i64 k) (runN (rpB d) (l.drop a)) ⟨0,by omega,by omega,rfl,by(simp(disch:=first|assumption|omega) only[go_sem,seval, *]),by(simp(disch:=first|assumption|omega) only[go_sem,seval, *]),by(simp(disch:=first|assumption|omega) only[go_sem,seval, *]),by(simp(disch:=first|assumption|omega) only[go_sem,seval, *])⟩ ?_
  rintro m env s' ⟨k,hk,hm,rfl,e0,e1,e2,e7⟩
  obtain⟨r1,r2,r3⟩:=runN_at (rpB d) (l.drop a) k hk
  simp only[List.getElem?_drop]at r1 r2 r3
  have c1:(a:Int)+(k:Int)=((a+k:Nat):Int):=by omega
  rcases hc:l[a+k]? with _|c
  · have hlt:¬ a+k<l.length:=by have:=List.getElem?_eq_none_iff.1 hc;omega
    have:=r3 hc
    (repeat'(first|refine Ctl ?_|((with_reducible refine Kof.use hK ?_);clear hK hE K E)|((with_reducible refine Eof.use hE ?_);(try clear hK hE K E))|((with_reducible refine W_cond (fun h=>?_) (fun h=>?_))<;>(try(exfalso;first|assumption|omega)))|((first|(with_reducible first|refine G_region fun K E hK hE=>?_|refine call_ret can68 (Rdigit_S _ _) ?_|refine call_ret can70 (Rpart_S _ _) ?_|refine W_if ?_|refine W_ifS ?_|refine W_and ?_)|((with_reducible refine W_gd (fun h=>?_) (fun h=>?_))<;>(try(exfalso;first|assumption|omega))))<;>(try simp(disch:=first|assumption|omega) only[go_sem,seval,c1, *]))))
    all_goals(first|refine W_ret res69 hQ ?_|refine W_norm res69 hQ ?_|refine G_pan hQ ?_)
    all_goals(refine⟨_,_,Wk.of_eq ?_,?_,rfl,rfl⟩)
    · rw[this]
    · exact Fg.refl _
  · have hlt:a+k<l.length:=(List.getElem?_eq_some_iff.1 hc).1
    have hr1:=r1 c hc
    have hr2:=r2 c hc
    clear r1 r2 r3
    (repeat'(first|refine Ctl ?_|((with_reducible refine Kof.use hK ?_);clear hK hE K E)|((with_reducible refine Eof.use hE ?_);(try clear hK hE K E))|((with_reducible refine W_cond (fun h=>?_) (fun h=>?_))<;>(try(exfalso;first|assumption|omega)))|((first|(with_reducible first|refine G_region fun K E hK hE=>?_|refine call_ret can68 (Rdigit_S _ _) ?_|refine call_ret can70 (Rpart_S _ _) ?_|refine W_if ?_|refine W_ifS ?_|refine W_and ?_)|((with_reducible refine W_gd (fun h=>?_) (fun h=>?_))<;>(try(exfalso;first|assumption|omega))))<;>(try simp(disch:=first|assumption|omega) only[go_sem,seval,c1, *]))))
    all_goals first
      | (have := hr1 (by simp only [rpB]; grind)
         refine⟨m - 1,by omega,k+1,by omega,by omega,rfl,z_sl,z_sl,z_sl,z_sl⟩)
      |((first|refine W_ret res69 hQ ?_|refine W_norm res69 hQ ?_|refine G_pan hQ ?_);(refine⟨_,_,Wk.of_eq ?_,?_,rfl,rfl⟩)<;>first|exact Fg.refl _|(rw[hr2 (by simp only[rpB];grind)]))
theorem marks_mem (c:UInt8):(0≤Lib.indexByte marks c)=(c∈marks):=by
 have:=Lib.contains_iff_indexByte marks c
 rw[← decide_eq_true_eq (p:=0≤Lib.indexByte marks c),← this];simp
theorem markN_cons (c:UInt8)(r:List UInt8):markN (c::r)=if ((c::r).take 2=[58,45]∨(c::r).take 2=[58,58]∨(c::r).take 2=[33,61])then 2 else if c∈marks then 1 else 0:=by
 have pre:∀p:List UInt8,p.length=2→p.isPrefixOf (c::r)=decide ((c::r).take 2=p):=fun p hp=>by
  rw[← hp]
  by_cases h:p.length≤(c::r).length
  ·exact(prefix_take p _ h).symm
  ·rw[prefix_long p _ h]
   symm
   rw[decide_eq_false_iff_not]
   intro e
   have:=congrArg List.length e
   rw[List.length_take]at this
   omega
 simp only[markN,pre [58,45] rfl,pre [58,58] rfl,pre [33,61] rfl,marks_mem,decide_eq_true_eq]
 grind
theorem take2_drop (l:List UInt8)(a:Nat):List.drop a (List.take (a+2) l)=(l.drop a).take 2:=by
 rw[List.drop_take];simp
theorem Rmark_S (l:List UInt8)(a:Nat)(c:UInt8)(r:List UInt8)(s:St)(hd:l.drop a=c::r)(hl:l.length≤9223372036854775000) :
  SRet Tryz.prog 71 [.str l,.int .i64 a] s (.int .i64 (markN (c::r))) s:=by
 refine G_enter Tryz.func71 rfl Tryz.ntmps71 rfl fun Q hQ hQe=>?_
 have hlen:a+1+r.length=l.length:=by have:=congrArg List.length hd;simp at this;omega
 have hc:l[a]?=some c:=by have:=List.getElem?_drop (xs:=l) (i:=a) (j:=0);rw[hd]at this;simpa using this.symm
 have hT:=take2_drop l a
 rw[hd]at hT
 have c1:(a:Int)+2=((a+2:Nat):Int):=by omega
 have hs:r.length=0→r=[]:=List.eq_nil_of_length_eq_zero
 (repeat'(first|refine Ctl ?_|((with_reducible refine Kof.use hK ?_);clear hK hE K E)|((with_reducible refine Eof.use hE ?_);(try clear hK hE K E))|((with_reducible refine Kof.use hKh ?_);clear hKh Kh)|((with_reducible refine Kof.use hKb (P_next ?_));clear hKb Kb)|(with_reducible refine G_plan 8 [] [0,1,2,3,4,5] hQe fun K E hK hE=>?_)|((with_reducible refine W_cond (fun h=>?_) (fun h=>?_))<;>(try(exfalso;first|assumption|omega)))|((first|(with_reducible first|refine G_region fun K E hK hE=>?_|refine W_if ?_|refine W_ifS ?_|refine P_heads fun Kh hKh=>?_|refine P_fin fun Kh hKh=>?_|refine P_each fun Kb hKb=>?_|refine W_and ?_)|((with_reducible refine W_gd (fun h=>?_) (fun h=>?_))<;>(try(exfalso;first|assumption|omega))))<;>(try simp(disch:=first|assumption|omega) only[go_sem,seval,c1, *]))))
 all_goals try((first|refine W_ret res71 hQ ?_|refine W_norm res71 hQ ?_|refine G_pan hQ ?_);(refine⟨_,_,Wk.of_eq ?_,?_,rfl,rfl⟩)<;>first|exact Fg.refl _|(rw[markN_cons];grind))
 all_goals
  have hno:¬ ((c::r).take 2=[58,45]∨(c::r).take 2=[58,58]∨(c::r).take 2=[33,61]):=by
   first|(rw[hs (by omega)];simp;done)|(rw[hT]at *;simp_all;done)
  refine L_loop (fun m env s'=>∃k:Nat,k≤9∧m+k=9∧(∀j,j<k→marks[j]?≠some c)∧s'=s∧env 0=.str l∧env 1=.int .i64 a∧env 6=.int .i64 k) 9 ⟨0,by omega,by omega,by omega,rfl,z_sl,z_sl,z_sl⟩ ?_
  rintro m env s' ⟨k,hk,hm,hj,rfl,e0,e1,e6⟩
  rcases Nat.lt_or_ge k 9 with h9|h9
  ·obtain⟨d,hdk⟩:∃d,marks[k]?=some d:=⟨_,List.getElem?_eq_getElem (by simp[marks];omega)⟩
   have hmk:([40,41,123,125,44,46,59,61,33]:List UInt8)[k]?=some d:=hdk
   (repeat'(first|refine Ctl ?_|((with_reducible refine Kof.use hK ?_);clear hK hE K E)|((with_reducible refine Eof.use hE ?_);(try clear hK hE K E))|((with_reducible refine Kof.use hKh ?_);clear hKh Kh)|((with_reducible refine Kof.use hKb (P_next ?_));clear hKb Kb)|(with_reducible refine G_plan 8 [] [0,1,2,3,4,5] hQe fun K E hK hE=>?_)|((with_reducible refine W_cond (fun h=>?_) (fun h=>?_))<;>(try(exfalso;first|assumption|omega)))|((first|(with_reducible first|refine G_region fun K E hK hE=>?_|refine W_if ?_|refine W_ifS ?_|refine P_heads fun Kh hKh=>?_|refine P_fin fun Kh hKh=>?_|refine P_each fun Kb hKb=>?_|refine W_and ?_)|((with_reducible refine W_gd (fun h=>?_) (fun h=>?_))<;>(try(exfalso;first|assumption|omega))))<;>(try simp(disch:=first|assumption|omega) only[go_sem,seval, *]))))
   all_goals first
    |refine⟨m - 1,by omega,k+1,by omega,by omega,fun j hj1=>?_,rfl,z_sl,z_sl,z_sl⟩
     rcases Nat.lt_or_ge j k with hjk|hjk
     ·exact hj j hjk
     ·have:j=k:=by omega
      subst this
      rw[hdk]
      intro e
      injection e with e
      exact ‹¬ c.toNat=d.toNat› (by rw[e])
    |have hcd:c=d:=UInt8.toNat_inj.1 (of_eq_true ‹(c.toNat=d.toNat)=True›)
     (first|refine W_ret res71 hQ ?_|refine W_norm res71 hQ ?_|refine G_pan hQ ?_)
     (refine⟨_,_,Wk.of_eq ?_,?_,rfl,rfl⟩)
     ·rw[markN_cons,if_neg hno,if_pos (hcd ▸ List.mem_of_getElem? hdk)];rfl
     ·exact Fg.refl _
  ·have:k=9:=by omega
   subst this
   have hnm:c∉marks:=fun hm=>by
    obtain⟨j,hj9,e⟩:=List.mem_iff_getElem.1 hm
    exact hj j hj9 (by rw[List.getElem?_eq_getElem hj9,e])
   (repeat'(first|refine Ctl ?_|((with_reducible refine Kof.use hK ?_);clear hK hE K E)|((with_reducible refine Eof.use hE ?_);(try clear hK hE K E))|((with_reducible refine Kof.use hKh ?_);clear hKh Kh)|((with_reducible refine Kof.use hKb (P_next ?_));clear hKb Kb)|(with_reducible refine G_plan 8 [] [0,1,2,3,4,5] hQe fun K E hK hE=>?_)|((with_reducible refine W_cond (fun h=>?_) (fun h=>?_))<;>(try(exfalso;first|assumption|omega)))|((first|(with_reducible first|refine G_region fun K E hK hE=>?_|refine W_if ?_|refine W_ifS ?_|refine P_heads fun Kh hKh=>?_|refine P_fin fun Kh hKh=>?_|refine P_each fun Kb hKb=>?_|refine W_and ?_)|((with_reducible refine W_gd (fun h=>?_) (fun h=>?_))<;>(try(exfalso;first|assumption|omega))))<;>(try simp(disch:=first|assumption|omega) only[go_sem,seval, *]))))
   all_goals(first|refine W_ret res71 hQ ?_|refine W_norm res71 hQ ?_|refine G_pan hQ ?_)
   all_goals(refine⟨_,_,Wk.of_eq ?_,?_,rfl,rfl⟩)
   all_goals first|exact Fg.refl _|(rw[markN_cons,if_neg hno,if_neg hnm];rfl)
def RoneV (a:Nat)(l:List UInt8):VV:=.tup [if (oneK l).2=0∧(oneK l).1=0 then .agg [.int .i64 0,.str [],.int .i64 0] else .agg [.int .i64 (oneK l).1,.str (l.take (oneK l).2),.int .i64 a],.bool (decide (0<(oneK l).2))]
theorem rp_t:rpB true=digB:=funext rpB_t
theorem rp_f:rpB false=partB:=funext rpB_f
theorem Rone_S (l:List UInt8)(a:Nat)(c:UInt8)(r:List UInt8)(s:St)(hd:l.drop a=c::r)(hl:l.length≤9223372036854775000) :
  SRet Tryz.prog 41 [.str l,.int .i64 a] s (RoneV a (c::r)) s:=by
 refine G_enter Tryz.func41 rfl Tryz.ntmps41 rfl fun Q hQ hQe=>?_
 have hlen:a+1+r.length=l.length:=by have:=congrArg List.length hd;simp at this;omega
 have hc:l[a]?=some c:=by have:=List.getElem?_drop (xs:=l) (i:=a) (j:=0);rw[hd]at this;simpa using this.symm
 have h1:=runN_le digB (c::r)
 have h2:=runN_le partB (c::r)
 have h3:(oneK (c::r)).2≤r.length+1:=oneK_le c r
 simp only[List.length_cons]at h1 h2
 have h4:markN (c::r)≤2:=by unfold markN;grind
 have e48:((c.toNat:Int)=48)=(c=48):=u8_eq (c:=c) (d:=48)
 have h5:markN (c::r)≤r.length+1:=by rw[markN_cons];cases r<;>grind
 have hT:∀k,List.drop a (List.take (a+k) l)=(c::r).take k:=fun k=>by rw[List.drop_take,hd];simp
 have c1:∀k:Nat,(a:Int)+(k:Int)=((a+k:Nat):Int):=fun k=>by omega
 (repeat'(first|refine Ctl ?_|((with_reducible refine Kof.use hK ?_);clear hK hE K E)|((with_reducible refine Eof.use hE ?_);(try clear hK hE K E))|((with_reducible refine W_cond (fun h=>?_) (fun h=>?_))<;>(try(exfalso;first|assumption|omega)))|((first|(with_reducible first|refine G_region fun K E hK hE=>?_|refine call_ret can68 (Rdigit_S _ _) ?_|refine call_ret can70 (Rpart_S _ _) ?_|refine call_ret can69 (Rrun_S _ _ _ _ (by first|assumption|omega) (by first|assumption|omega)) ?_|refine call_ret can71 (Rmark_S _ _ _ _ _ (by first|assumption|omega) (by first|assumption|omega)) ?_|refine W_if ?_|refine W_ifS ?_|refine W_and ?_)|((with_reducible refine W_fresh (fun b hb=>?_));(repeat(obtain⟨_,hb⟩:=hb)))|((with_reducible refine W_gd (fun h=>?_) (fun h=>?_))<;>(try(exfalso;first|assumption|omega))))<;>(try simp(disch:=first|assumption|omega) only[go_sem,seval,c1,hd,rp_t,rp_f, *]))))
 all_goals(first|refine W_ret res41 hQ ?_|refine W_norm res41 hQ ?_|refine G_pan hQ ?_)
 all_goals(refine⟨_,_,Wk.of_eq ?_,?_,rfl,rfl⟩)
 all_goals first|(exact z_fg)|skip
 all_goals(simp only[RoneV,oneK,VV.tup.injEq,List.cons.injEq,VV.bool.injEq,and_true,List.length_cons];grind)
def RisB (k:Nat)(t:List UInt8):Bool:=decide (t≠[]∧t.length≤32∧oneK t=(k,t.length))
theorem Ris_S (k:Nat)(t:List UInt8)(a:Int)(s:St):SRet Tryz.prog 72 [.agg [.int .i64 k,.str t,.int .i64 a]] s (.bool (RisB k t)) s:=by
 refine G_enter Tryz.func72 rfl Tryz.ntmps72 rfl fun Q hQ hQe=>?_
 rcases t with _|⟨c,r⟩
 ·(repeat'(first|refine Ctl ?_|((with_reducible refine Kof.use hK ?_);clear hK hE K E)|((with_reducible refine Eof.use hE ?_);(try clear hK hE K E))|((with_reducible refine W_cond (fun h=>?_) (fun h=>?_))<;>(try(exfalso;first|assumption|omega)))|((first|(with_reducible first|refine G_region fun K E hK hE=>?_|refine call_ret can41 (Rone_S _ _ _ _ _ (by first|assumption|omega) (by first|assumption|omega)) ?_|refine W_if ?_|refine W_ifS ?_|refine W_and ?_)|((with_reducible refine W_fresh (fun b hb=>?_));(repeat(obtain⟨_,hb⟩:=hb)))|((with_reducible refine W_gd (fun h=>?_) (fun h=>?_))<;>(try(exfalso;first|assumption|omega))))<;>(try simp(disch:=first|assumption|omega) only[go_sem,seval, *]))))
  all_goals(first|refine W_ret res72 hQ ?_|refine W_norm res72 hQ ?_|refine G_pan hQ ?_)
  all_goals(refine⟨_,_,Wk.of_eq ?_,?_,rfl,rfl⟩)
  all_goals first|(exact z_fg)|skip
  all_goals simp[RisB]
 ·have h3:(oneK (c::r)).2≤r.length+1:=oneK_le c r
  have htk:((c::r).take (oneK (c::r)).2=c::r)=((oneK (c::r)).2=r.length+1):=by
   apply propext
   constructor
   ·intro e;have:=congrArg List.length e;rw[List.length_take]at this;simp only[List.length_cons]at this;omega
   ·intro e;rw[e];exact List.take_of_length_le (by simp)
  by_cases hz:(oneK (c::r)).2=0∧(oneK (c::r)).1=0
  ·have hv:RoneV 0 (c::r)=.tup [.agg [.int .i64 0,.str [],.int .i64 0],.bool false]:=by simp only[RoneV];rw[if_pos hz];simp[hz.1]
   have hone:=fun(hl:(c::r).length≤9223372036854775000) (s:St)=>hv ▸ Rone_S (c::r) 0 c r s rfl hl
   clear hv
   (repeat'(first|refine Ctl ?_|((with_reducible refine Kof.use hK ?_);clear hK hE K E)|((with_reducible refine Eof.use hE ?_);(try clear hK hE K E))|((with_reducible refine W_cond (fun h=>?_) (fun h=>?_))<;>(try(exfalso;first|assumption|omega)))|((first|(with_reducible first|refine G_region fun K E hK hE=>?_|refine call_ret can41 (hone (by simp;omega) _) ?_|refine call_ret can41 (Rone_S _ _ _ _ _ (by first|assumption|omega) (by first|assumption|omega)) ?_|refine W_if ?_|refine W_ifS ?_|refine W_and ?_)|((with_reducible refine W_fresh (fun b hb=>?_));(repeat(obtain⟨_,hb⟩:=hb)))|((with_reducible refine W_gd (fun h=>?_) (fun h=>?_))<;>(try(exfalso;first|assumption|omega))))<;>(try simp(disch:=first|assumption|omega) only[go_sem,seval, *]))))
   all_goals(first|refine W_ret res72 hQ ?_|refine W_norm res72 hQ ?_|refine G_pan hQ ?_)
   all_goals(refine⟨_,_,Wk.of_eq ?_,?_,rfl,rfl⟩)
   all_goals first|(exact z_fg)|skip
   all_goals(simp only[RisB,VV.bool.injEq];grind)
  ·have hv:RoneV 0 (c::r)=.tup [.agg [.int .i64 (oneK (c::r)).1,.str ((c::r).take (oneK (c::r)).2),.int .i64 0],.bool (decide (0<(oneK (c::r)).2))]:=by simp only[RoneV];rw[if_neg hz];rfl
   have hone:=fun(hl:(c::r).length≤9223372036854775000) (s:St)=>hv ▸ Rone_S (c::r) 0 c r s rfl hl
   clear hv
   (repeat'(first|refine Ctl ?_|((with_reducible refine Kof.use hK ?_);clear hK hE K E)|((with_reducible refine Eof.use hE ?_);(try clear hK hE K E))|((with_reducible refine W_cond (fun h=>?_) (fun h=>?_))<;>(try(exfalso;first|assumption|omega)))|((first|(with_reducible first|refine G_region fun K E hK hE=>?_|refine call_ret can41 (hone (by simp;omega) _) ?_|refine call_ret can41 (Rone_S _ _ _ _ _ (by first|assumption|omega) (by first|assumption|omega)) ?_|refine W_if ?_|refine W_ifS ?_|refine W_and ?_)|((with_reducible refine W_fresh (fun b hb=>?_));(repeat(obtain⟨_,hb⟩:=hb)))|((with_reducible refine W_gd (fun h=>?_) (fun h=>?_))<;>(try(exfalso;first|assumption|omega))))<;>(try simp(disch:=first|assumption|omega) only[go_sem,seval, *]))))
   all_goals(first|refine W_ret res72 hQ ?_|refine W_norm res72 hQ ?_|refine G_pan hQ ?_)
   all_goals(refine⟨_,_,Wk.of_eq ?_,?_,rfl,rfl⟩)
   all_goals first|(exact z_fg)|skip
   all_goals(simp only[RisB,VV.bool.injEq];generalize oneK (c::r)=q at *;obtain⟨q1,q2⟩:=q;grind)
theorem Rsigns_S (l:List UInt8)(hl:l.length≤9223372036854775000)(s:St):SRet Tryz.prog 23 [.str l] s (signsV (lexSigns l)) s:=by
 refine G_enter Tryz.func23 rfl Tryz.ntmps23 rfl fun Q hQ hQe=>?_
 by_cases hbig:16384<l.length
 ·(repeat'(first|refine Ctl ?_|((with_reducible refine Kof.use hK ?_);clear hK hE K E)|((with_reducible refine Eof.use hE ?_);(try clear hK hE K E))|((with_reducible refine W_cond (fun h=>?_) (fun h=>?_))<;>(try(exfalso;first|assumption|omega)))|((first|(with_reducible first|refine G_region fun K E hK hE=>?_|refine call_ret can41 (Rone_S _ _ _ _ _ (by first|assumption|omega) (by first|assumption|omega)) ?_|refine W_if ?_|refine W_ifS ?_|refine W_and ?_)|((with_reducible refine W_fresh (fun b hb=>?_));(repeat(obtain⟨_,hb⟩:=hb)))|((with_reducible refine W_app (fun o2 ho=>?_));(repeat(obtain⟨_,ho⟩:=ho)))|((with_reducible refine W_gd (fun h=>?_) (fun h=>?_))<;>(try(exfalso;first|assumption|omega))))<;>(try simp(disch:=first|assumption|omega) only[go_sem,seval, *]))))
  all_goals(first|refine W_ret res23 hQ ?_|refine W_norm res23 hQ ?_|refine G_pan hQ ?_)
  all_goals(refine⟨_,_,?_,?_,rfl,rfl⟩)
  ·rw[show lexSigns l=.error (0,1) by unfold lexSigns;rw[if_pos hbig]]
   exact Wk.tup3
  ·exact Fg.refl _
 ·(repeat'(first|refine Ctl ?_|((with_reducible refine Kof.use hK ?_);clear hK hE K E)|((with_reducible refine Eof.use hE ?_);(try clear hK hE K E))|((with_reducible refine W_cond (fun h=>?_) (fun h=>?_))<;>(try(exfalso;first|assumption|omega)))|((first|(with_reducible first|refine G_region fun K E hK hE=>?_|refine call_ret can41 (Rone_S _ _ _ _ _ (by first|assumption|omega) (by first|assumption|omega)) ?_|refine W_if ?_|refine W_ifS ?_|refine W_and ?_)|((with_reducible refine W_fresh (fun b hb=>?_));(repeat(obtain⟨_,hb⟩:=hb)))|((with_reducible refine W_app (fun o2 ho=>?_));(repeat(obtain⟨_,ho⟩:=ho)))|((with_reducible refine W_gd (fun h=>?_) (fun h=>?_))<;>(try(exfalso;first|assumption|omega))))<;>(try simp(disch:=first|assumption|omega) only[go_sem,seval, *]))))
  have hr:lexSigns l=lexR l 0 []:=by unfold lexSigns lexR;rw[if_neg (by omega)]
  generalize lexSigns l=r at *
  refine G_loop (fun n env s'=>∃(at_:Nat) (out:List Sgn) (o:Own),at_≤l.length∧n+at_=l.length∧out.length≤4096∧r=lexR (l.drop at_) at_ out∧s'=s.own o 122 3 out.length∧OwnOk s o out.length ∧
   env 0=.str l∧env 5=.lst (out.map sgnC) o∧env 6=.int .i64 at_) l.length ?_ ?_
  ·exact⟨_,Fg.refl _,0,[],.full,Nat.zero_le _,by omega,Nat.zero_le _,by simpa using hr,rfl,rfl,z_sl,z_sl,z_sl⟩
  ·rintro n env s' ⟨at_,out,o,hat,hn,hout,hgo,rfl,hown,e0,e5,e6⟩
   rcases hd:l.drop at_ with _|⟨c,rr⟩
   ·have h1:l.length≤at_:=List.drop_eq_nil_iff.1 hd
    rw[hd,lexR_nil]at hgo
    subst hgo
    (repeat'(first|refine Ctl ?_|((with_reducible refine Kof.use hK ?_);clear hK hE K E)|((with_reducible refine Eof.use hE ?_);(try clear hK hE K E))|((with_reducible refine W_cond (fun h=>?_) (fun h=>?_))<;>(try(exfalso;first|assumption|omega)))|((first|(with_reducible first|refine G_region fun K E hK hE=>?_|refine call_ret can41 (Rone_S _ _ _ _ _ (by first|assumption|omega) (by first|assumption|omega)) ?_|refine W_if ?_|refine W_ifS ?_|refine W_and ?_)|((with_reducible refine W_fresh (fun b hb=>?_));(repeat(obtain⟨_,hb⟩:=hb)))|((with_reducible refine W_app (fun o2 ho=>?_));(repeat(obtain⟨_,ho⟩:=ho)))|((with_reducible refine W_gd (fun h=>?_) (fun h=>?_))<;>(try(exfalso;first|assumption|omega))))<;>(try simp(disch:=first|assumption|omega) only[go_sem,seval, *]))))
    all_goals(first|refine W_ret res23 hQ ?_|refine W_norm res23 hQ ?_|refine G_pan hQ ?_)
    all_goals(refine⟨_,_,?_,?_,rfl,rfl⟩)
    ·exact Wk.tup3
    ·exact Fg.own hown
   ·have hlen:at_+1+rr.length=l.length:=by have:=congrArg List.length hd;simp at this;omega
    have hc:l[at_]?=some c:=by have:=List.getElem?_drop (xs:=l) (i:=at_) (j:=0);rw[hd]at this;simpa using this.symm
    have hd1:l.drop (at_+1)=rr:=by rw[← List.drop_drop,hd];rfl
    by_cases hb:blankB c=true
    ·rw[hd,lexR_blank hb]at hgo
     rw[blankB_mem]at hb
     have e9:((c.toNat:Int)=9)=(c=9):=u8_eq (c:=c) (d:=9)
     have e10:((c.toNat:Int)=10)=(c=10):=u8_eq (c:=c) (d:=10)
     have e13:((c.toNat:Int)=13)=(c=13):=u8_eq (c:=c) (d:=13)
     have e32:((c.toNat:Int)=32)=(c=32):=u8_eq (c:=c) (d:=32)
     have hbb:=of_decide_eq_true hb
     clear hb
     (repeat'(first|refine Ctl ?_|((with_reducible refine Kof.use hK ?_);clear hK hE K E)|((with_reducible refine Eof.use hE ?_);(try clear hK hE K E))|((with_reducible refine W_cond (fun h=>?_) (fun h=>?_))<;>(try(exfalso;first|assumption|omega)))|((first|(with_reducible first|refine G_region fun K E hK hE=>?_|refine call_ret can41 (Rone_S _ _ _ _ _ (by first|assumption|omega) (by first|assumption|omega)) ?_|refine W_if ?_|refine W_ifS ?_|refine W_and ?_)|((with_reducible refine W_fresh (fun b hb=>?_));(repeat(obtain⟨_,hb⟩:=hb)))|((with_reducible refine W_app (fun o2 ho=>?_));(repeat(obtain⟨_,ho⟩:=ho)))|((with_reducible refine W_gd (fun h=>?_) (fun h=>?_))<;>(try(exfalso;first|assumption|omega))))<;>(try simp(disch:=first|assumption|omega) only[go_sem,seval, *]))))
     all_goals first
      |(exfalso;grind;done)
      |exact⟨_,Fg.refl _,n - 1,by omega,at_+1,out,o,by omega,by omega,hout,by rw[hd1];exact hgo,rfl,hown,z_sl,z_sl,z_sl⟩
    ·have hbn:¬ (c=32∨c=9∨c=10∨c=13):=by rw[blankB_mem]at hb;simpa using hb
     simp only[not_or]at hbn
     obtain⟨n32,n9,n10,n13⟩:=hbn
     have e9:((c.toNat:Int)=9)=(c=9):=u8_eq (c:=c) (d:=9)
     have e10:((c.toNat:Int)=10)=(c=10):=u8_eq (c:=c) (d:=10)
     have e13:((c.toNat:Int)=13)=(c=13):=u8_eq (c:=c) (d:=13)
     have e32:((c.toNat:Int)=32)=(c=32):=u8_eq (c:=c) (d:=32)
     have e35:((c.toNat:Int)=35)=(c=35):=u8_eq (c:=c) (d:=35)
     by_cases hh:c=35
     ·have hc35:c.toNat=35:=by rw[hh];rfl
      rw[hd,lexR_hash hc35,← hd]at hgo
      replace hh:=eq_true hh
      clear hc35
      (repeat'(first|refine Ctl ?_|((with_reducible refine Kof.use hK ?_);clear hK hE K E)|((with_reducible refine Eof.use hE ?_);(try clear hK hE K E))|((with_reducible refine W_cond (fun h=>?_) (fun h=>?_))<;>(try(exfalso;first|assumption|omega)))|((first|(with_reducible first|refine G_region fun K E hK hE=>?_|refine call_ret can41 (Rone_S _ _ _ _ _ (by first|assumption|omega) (by first|assumption|omega)) ?_|refine W_if ?_|refine W_ifS ?_|refine W_and ?_)|((with_reducible refine W_fresh (fun b hb=>?_));(repeat(obtain⟨_,hb⟩:=hb)))|((with_reducible refine W_app (fun o2 ho=>?_));(repeat(obtain⟨_,ho⟩:=ho)))|((with_reducible refine W_gd (fun h=>?_) (fun h=>?_))<;>(try(exfalso;first|assumption|omega))))<;>(try simp(disch:=first|assumption|omega) only[go_sem,seval, *]))))
      refine L_loop (fun m env s'=>∃a2:Nat,a2≤l.length∧m+a2=l.length∧(at_<a2∨a2=at_)∧r=lexR ((l.drop a2).drop (runN noLine (l.drop a2))) (a2+runN noLine (l.drop a2)) out∧s'=s.own o 122 3 out.length∧OwnOk s o out.length ∧
       env 0=.str l∧env 5=.lst (out.map sgnC) o∧env 6=.int .i64 a2) n ⟨at_,by omega,by omega,.inr rfl,hgo,rfl,hown,z_sl,z_sl,z_sl⟩ ?_
      rintro m env2 s2 ⟨a2,ha2,hm,hat2,hgo2,rfl,_,f0,f5,f6⟩
      clear e0 e5 e6 hgo
      rcases hd2:l.drop a2 with _|⟨c2,r2⟩
      ·have h1:l.length≤a2:=List.drop_eq_nil_iff.1 hd2
       have hgo3:r=lexR (l.drop a2) a2 out:=by rw[hgo2,hd2];rfl
       (repeat'(first|refine Ctl ?_|((with_reducible refine Kof.use hK ?_);clear hK hE K E)|((with_reducible refine Eof.use hE ?_);(try clear hK hE K E))|((with_reducible refine W_cond (fun h=>?_) (fun h=>?_))<;>(try(exfalso;first|assumption|omega)))|((first|(with_reducible first|refine G_region fun K E hK hE=>?_|refine call_ret can41 (Rone_S _ _ _ _ _ (by first|assumption|omega) (by first|assumption|omega)) ?_|refine W_if ?_|refine W_ifS ?_|refine W_and ?_)|((with_reducible refine W_fresh (fun b hb=>?_));(repeat(obtain⟨_,hb⟩:=hb)))|((with_reducible refine W_app (fun o2 ho=>?_));(repeat(obtain⟨_,ho⟩:=ho)))|((with_reducible refine W_gd (fun h=>?_) (fun h=>?_))<;>(try(exfalso;first|assumption|omega))))<;>(try simp(disch:=first|assumption|omega) only[go_sem,seval, *]))))
       all_goals exact⟨_,Fg.refl _,l.length - a2,by omega,a2,out,o,by omega,by omega,hout,hgo3,rfl,hown,z_sl,z_sl,z_sl⟩
      ·have hlen2:a2+1+r2.length=l.length:=by have:=congrArg List.length hd2;simp at this;omega
       have hc2:l[a2]?=some c2:=by have:=List.getElem?_drop (xs:=l) (i:=a2) (j:=0);rw[hd2]at this;simpa using this.symm
       have hd3:l.drop (a2+1)=r2:=by rw[← List.drop_drop,hd2];rfl
       have f10:((c2.toNat:Int)=10)=(c2=10):=u8_eq (c:=c2) (d:=10)
       by_cases hnl:c2=10
       ·have hne:¬ a2=at_:=fun e=>by subst e;rw[hc]at hc2;injection hc2 with e2;exact n10 (e2.trans hnl)
        have hgo3:r=lexR (l.drop a2) a2 out:=by
         rw[hgo2,hd2,runN_cons,if_neg (by simp[noLine,hnl])];rfl
        replace hnl:=eq_true hnl
        (repeat'(first|refine Ctl ?_|((with_reducible refine Kof.use hK ?_);clear hK hE K E)|((with_reducible refine Eof.use hE ?_);(try clear hK hE K E))|((with_reducible refine W_cond (fun h=>?_) (fun h=>?_))<;>(try(exfalso;first|assumption|omega)))|((first|(with_reducible first|refine G_region fun K E hK hE=>?_|refine call_ret can41 (Rone_S _ _ _ _ _ (by first|assumption|omega) (by first|assumption|omega)) ?_|refine W_if ?_|refine W_ifS ?_|refine W_and ?_)|((with_reducible refine W_fresh (fun b hb=>?_));(repeat(obtain⟨_,hb⟩:=hb)))|((with_reducible refine W_app (fun o2 ho=>?_));(repeat(obtain⟨_,ho⟩:=ho)))|((with_reducible refine W_gd (fun h=>?_) (fun h=>?_))<;>(try(exfalso;first|assumption|omega))))<;>(try simp(disch:=first|assumption|omega) only[go_sem,seval, *]))))
        all_goals exact⟨_,Fg.refl _,l.length - a2,by omega,a2,out,o,by omega,by omega,hout,hgo3,rfl,hown,z_sl,z_sl,z_sl⟩
       ·have hn2:noLine c2=true:=by simp only[noLine];rw[decide_eq_false (by rw[f10];exact hnl)];rfl
        have hgo3:=hgo2
        rw[hd2,lexR_noline hn2,← hd3]at hgo3
        (repeat'(first|refine Ctl ?_|((with_reducible refine Kof.use hK ?_);clear hK hE K E)|((with_reducible refine Eof.use hE ?_);(try clear hK hE K E))|((with_reducible refine W_cond (fun h=>?_) (fun h=>?_))<;>(try(exfalso;first|assumption|omega)))|((first|(with_reducible first|refine G_region fun K E hK hE=>?_|refine call_ret can41 (Rone_S _ _ _ _ _ (by first|assumption|omega) (by first|assumption|omega)) ?_|refine W_if ?_|refine W_ifS ?_|refine W_and ?_)|((with_reducible refine W_fresh (fun b hb=>?_));(repeat(obtain⟨_,hb⟩:=hb)))|((with_reducible refine W_app (fun o2 ho=>?_));(repeat(obtain⟨_,ho⟩:=ho)))|((with_reducible refine W_gd (fun h=>?_) (fun h=>?_))<;>(try(exfalso;first|assumption|omega))))<;>(try simp(disch:=first|assumption|omega) only[go_sem,seval, *]))))
        all_goals exact⟨m - 1,by omega,a2+1,by omega,by omega,by omega,hgo3,rfl,hown,z_sl,z_sl,z_sl⟩
     ·have hc35:¬ c.toNat=35:=fun e=>hh (UInt8.toNat_inj.1 e)
      rw[hd,lexR_sign (by simpa using hb) hc35,← hd]at hgo
      have hone:=fun s=>Rone_S l at_ c rr s hd (by omega)
      have hle:=oneK_le c rr
      rw[← hd]at hle
      simp only[← hd]at hone
      have hll:(l.drop at_).length=l.length - at_:=List.length_drop
      by_cases hz:(oneK (l.drop at_)).2=0
      ·have hv2:∃a1 a2 a3,RoneV at_ (l.drop at_)=.tup [.agg [.int .i64 a1,.str a2,.int .i64 a3],.bool false]:=by
        unfold RoneV
        by_cases hz2:(oneK (l.drop at_)).1=0
        ·rw[if_pos ⟨hz,hz2⟩,hz];exact⟨_,_,_,rfl⟩
        ·rw[if_neg (fun h=>hz2 h.2),hz];exact⟨_,_,_,rfl⟩
       obtain⟨a1,a2,a3,hA⟩:=hv2
       rw[if_pos hz]at hgo
       simp only[hA]at hone
       clear hA
       (repeat'(first|refine Ctl ?_|((with_reducible refine Kof.use hK ?_);clear hK hE K E)|((with_reducible refine Eof.use hE ?_);(try clear hK hE K E))|((with_reducible refine W_cond (fun h=>?_) (fun h=>?_))<;>(try(exfalso;first|assumption|omega)))|((first|(with_reducible first|refine G_region fun K E hK hE=>?_|refine call_ret can41 ((hone _)) ?_|refine call_ret can41 (Rone_S _ _ _ _ _ (by first|assumption|omega) (by first|assumption|omega)) ?_|refine W_if ?_|refine W_ifS ?_|refine W_and ?_)|((with_reducible refine W_fresh (fun b hb=>?_));(repeat(obtain⟨_,hb⟩:=hb)))|((with_reducible refine W_app (fun o2 ho=>?_));(repeat(obtain⟨_,ho⟩:=ho)))|((with_reducible refine W_gd (fun h=>?_) (fun h=>?_))<;>(try(exfalso;first|assumption|omega))))<;>(try simp(disch:=first|assumption|omega) only[go_sem,seval, *]))))
       all_goals(first|refine W_ret res23 hQ ?_|refine W_norm res23 hQ ?_|refine G_pan hQ ?_)
       all_goals(refine⟨_,_,?_,?_,rfl,rfl⟩)
       ·rw[hgo];exact Wk.tup3
       ·(exact z_fg)
      ·have hA:RoneV at_ (l.drop at_)=.tup [.agg [.int .i64 (oneK (l.drop at_)).1,.str ((l.drop at_).take (oneK (l.drop at_)).2),.int .i64 at_],.bool true]:=by
        unfold RoneV
        rw[if_neg (fun h=>hz h.1),decide_eq_true (by omega)]
       simp only[hA]at hone
       rw[if_neg hz]at hgo
       have hdd:(l.drop at_).drop (oneK (l.drop at_)).2=l.drop (at_+(oneK (l.drop at_)).2):=List.drop_drop
       have htl:((l.drop at_).take (oneK (l.drop at_)).2).length=(oneK (l.drop at_)).2:=by rw[List.length_take];omega
       rw[hdd]at hgo
       clear hA
       generalize (l.drop at_).take (oneK (l.drop at_)).2=tx at *
       generalize (oneK (l.drop at_)).1=kd at *
       generalize (oneK (l.drop at_)).2=nn at *
       by_cases hfull:4096≤out.length
       ·rw[if_pos hfull]at hgo
        (repeat'(first|refine Ctl ?_|((with_reducible refine Kof.use hK ?_);clear hK hE K E)|((with_reducible refine Eof.use hE ?_);(try clear hK hE K E))|((with_reducible refine W_cond (fun h=>?_) (fun h=>?_))<;>(try(exfalso;first|assumption|omega)))|((first|(with_reducible first|refine G_region fun K E hK hE=>?_|refine call_ret can41 ((hone _)) ?_|refine call_ret can41 (Rone_S _ _ _ _ _ (by first|assumption|omega) (by first|assumption|omega)) ?_|refine W_if ?_|refine W_ifS ?_|refine W_and ?_)|((with_reducible refine W_fresh (fun b hb=>?_));(repeat(obtain⟨_,hb⟩:=hb)))|((with_reducible refine W_app (fun o2 ho=>?_));(try simp(disch:=assumption) only[disown_set,disown_own,ownok_o,ownok_m,List.length_map,List.length_cons,List.length_nil,Nat.zero_add,List.length_map]at ho);(repeat(obtain⟨_,ho⟩:=ho)))|((with_reducible refine W_gd (fun h=>?_) (fun h=>?_))<;>(try(exfalso;first|assumption|omega))))<;>(try simp(disch:=first|assumption|omega) only[go_sem,seval,List.length_map, *]))))
        all_goals(first|refine W_ret res23 hQ ?_|refine W_norm res23 hQ ?_|refine G_pan hQ ?_)
        all_goals(refine⟨_,_,?_,?_,rfl,rfl⟩)
        ·rw[hgo];exact Wk.tup3
        ·(exact z_fg)
       ·rw[if_neg hfull]at hgo
        (repeat'(first|refine Ctl ?_|((with_reducible refine Kof.use hK ?_);clear hK hE K E)|((with_reducible refine Eof.use hE ?_);(try clear hK hE K E))|((with_reducible refine W_cond (fun h=>?_) (fun h=>?_))<;>(try(exfalso;first|assumption|omega)))|((first|(with_reducible first|refine G_region fun K E hK hE=>?_|refine call_ret can41 ((hone _)) ?_|refine call_ret can41 (Rone_S _ _ _ _ _ (by first|assumption|omega) (by first|assumption|omega)) ?_|refine W_if ?_|refine W_ifS ?_|refine W_and ?_)|((with_reducible refine W_fresh (fun b hb=>?_));(repeat(obtain⟨_,hb⟩:=hb)))|((with_reducible refine W_app (fun o2 ho=>?_));(try simp(disch:=assumption) only[disown_set,disown_own,ownok_o,ownok_m,List.length_map,List.length_cons,List.length_nil,Nat.zero_add,List.length_map,htl,vrow]at ho);(repeat(obtain⟨_,ho⟩:=ho)))|((with_reducible refine W_gd (fun h=>?_) (fun h=>?_))<;>(try(exfalso;first|assumption|omega))))<;>(try simp(disch:=first|assumption|omega) only[go_sem,seval,List.length_map,htl,vrow, *]))))
        refine⟨_,?_,n - nn,by omega,at_+nn,out++[{ kind:=kd,text:=tx,at_:=at_ }],_,by omega,by omega,by simp;omega,hgo,rfl,by simpa using ho,z_sl,?_,z_sl⟩
        ·simp only[List.length_append,List.length_cons,List.length_nil]
         (exact z_fg)
        ·(simp(disch:=first|assumption|omega) only[go_sem,seval, *])
         simp[sgnC]
def GoodL (L:List Sgn):Prop:=∀x,x∈L→decide (x.kind=1)=RisB 1 x.text
theorem runN_take (p:UInt8→Bool):∀l:List UInt8,runN p (l.take (runN p l))=runN p l
 |[]=>rfl
 |c::l=>by
  rw[runN_cons]
  split
  ·rename_i h
   rw[List.take_succ_cons,runN_cons,if_pos h,runN_take p l]
  ·rfl
theorem sign_good (c:UInt8)(r:List UInt8)(h:(oneK (c::r)).2≠0):decide ((oneK (c::r)).1=1)=RisB 1 ((c::r).take (oneK (c::r)).2):=by
 obtain⟨n,hn⟩:∃n,(oneK (c::r)).2=n+1:=⟨(oneK (c::r)).2 - 1,by omega⟩
 have hle:=oneK_le c r
 have hl:((c::r).take (n+1)).length=n+1:=by rw[List.length_take];omega
 rw[hn]
 have ht:(c::r).take (n+1)=c::r.take n:=rfl
 by_cases hd:digB c=true
 ·have h1:(oneK (c::r)).1≠1:=by simp only[oneK,hd,if_true];split<;>simp
  have h2:(oneK (c::r.take n)).1≠1:=by simp only[oneK,hd,if_true];split<;>simp
  rw[decide_eq_false h1]
  unfold RisB
  rw[ht,decide_eq_false]
  rintro⟨_,_,e⟩
  rw[e]at h2
  exact h2 rfl
 ·have hd:digB c=false:=by simpa using hd
  by_cases hp:partB c=true
  ·have h0:=h
   simp only[oneK,hd,hp,if_true,Bool.false_eq_true,if_false]at h0 hn ⊢
   by_cases hb:32<runN partB (c::r)
   ·rw[if_pos hb]at h0;exact absurd rfl h0
   ·rw[if_neg hb]at hn
    simp only at hn
    rw[if_neg hb]
    have ho:oneK (c::r.take n)=(1,n+1):=by
     simp only[oneK,hd,hp,if_true,Bool.false_eq_true,if_false]
     have hr:=runN_take partB (c::r)
     rw[hn,ht]at hr
     rw[hr,if_neg (by omega)]
    unfold RisB
    rw[ht]at hl
    rw[ht,ho,hl]
    simp
    omega
  ·have hp:partB c=false:=by simpa using hp
   have h1:(oneK (c::r)).1=3:=by simp only[oneK,hd,hp,Bool.false_eq_true,if_false]
   have h2:(oneK (c::r.take n)).1=3:=by simp only[oneK,hd,hp,Bool.false_eq_true,if_false]
   rw[h1]
   unfold RisB
   rw[ht,decide_eq_false (by decide),decide_eq_false]
   rintro⟨_,_,e⟩
   rw[e]at h2
   cases h2
theorem lexGo_good:∀(f:Nat) (l:List UInt8) (at_:Nat) (out L:List Sgn),GoodL out→out.length≤4096→lexGo f l at_ out=.ok L→GoodL L∧L.length≤4096
 |0,l,at_,out,L,hg,hl,h=>by simp only[lexGo]at h;injection h with h;subst h;exact⟨hg,hl⟩
 |f+1,l,at_,out,L,hg,hl,h=>by
  simp only[lexGo]at h
  cases hd:l.drop (runN blankB l)with
  |nil=>rw[hd]at h;injection h with h;subst h;exact⟨hg,hl⟩
  |cons c r=>
   rw[hd]at h
   simp only at h
   split at h
   ·exact lexGo_good f _ _ _ _ hg hl h
   ·split at h
    ·cases h
    ·rename_i h0
     split at h
     ·cases h
     ·rename_i hf
      refine lexGo_good f _ _ _ _ ?_ (by simp;omega) h
      intro x hx
      rcases List.mem_append.1 hx with hx|hx
      ·exact hg x hx
      ·rw[List.mem_singleton]at hx
       subst hx
       exact sign_good c r h0
theorem lexSigns_good {s:List UInt8}{L:List Sgn}(h:lexSigns s=.ok L):GoodL L∧L.length≤4096:=by
 unfold lexSigns at h
 split at h
 ·cases h
 ·exact lexGo_good _ _ _ _ _ (fun x hx=>by cases hx) (by simp) h
end Go.Proofs.YtadbggfpnhkmbaaGreat
