/- Walks of functions that the claim reaches, and plain facts of them. Conditions: those in the statements. -/
import Derived.Test.YtgdbgfjhenobdaaGreatDoorJmGpj
import Derived.Test.YtgdbgfjhenobdaaGreatDoorJmLexj
import Derived.Test.YtgdbgfjhenobdaaGreatDoorJmSf
import Derived.Test.YtgdbgfjhenobdaaGreatDoorJmFacts
import Derived.Lib.IndexAny
import Derived.Lib.SmallJoins
import Derived.Lib.Hide
set_option linter.unusedSimpArgs false
set_option linter.unusedVariables false
namespace Go.Proofs.YtgdbgfjhenobdaaGreatDoor
open Go.RowKit
def GS (s s':St):Prop:=∀(w0:World) (G:Gh) (w:World),Sim w0 G w s→Sim w0 G w s'
theorem GS.refl (s:St):GS s s:=fun _ _ _ h=>h
theorem GS.trans {a b c:St}(h:GS a b)(k:GS b c):GS a c:=fun w0 G w x=>k w0 G w (h w0 G w x)
theorem GS.of_fg {s s':St}(h:Fg s s'):GS s s':=fun _ _ _ x=>x.forget h
section
variable {w0 w : World} {G : Gh} {s : St} {b : Nat} {T : TypeId} {xs : List VV} {rs rs' : List (Nat × TypeId × Nat)}
theorem GS.topk (hb:s b=.obj T xs):GS s (s.set b (.pk T xs [])):=by
 intro w0 G w h
 have hob:=h.ok b
 rw[hb]at hob
 refine⟨h.below,h.K,h.cap,fun x=>?_,h.gl,?_⟩
 ·by_cases hx:x=b
  ·subst hx;rw[St.set_same];exact hob
  ·rw[St.set_other _ _ hx];exact h.ok x
 ·obtain⟨m,h1,h2,h3⟩:=h.rows
  refine⟨m,h1,fun b' i g hm=>⟨?_,(h2 b' i g hm).2⟩,fun b' T' xs' rs' i T2 sz hx hr=>?_⟩
  ·rw[St.set_other _ _ (by rintro rfl;have:=(h2 b' i _ hm).1;rw[hb]at this;cases this)]
   exact(h2 b' i g hm).1
  ·by_cases hxb:b'=b
   ·subst hxb
    rw[St.set_same]at hx
    injection hx with e1 e2 e3
    subst e3
    cases hr
   ·rw[St.set_other _ _ hxb]at hx
    exact h3 b' T' xs' rs' i T2 sz hx hr
theorem set_some {α:Type}{xs:List α}{i:Nat}{x y:α}(h:xs[i]?=some x):(xs.set i y)[i]?=some y:=by
 have:=(List.getElem?_eq_some_iff.mp h).1
 simp[this]
theorem GS.pack {i:Nat}{l:List (List VV)}{o:Own}{T':TypeId}{sz:Nat}(hb:s b=.pk T xs rs)(hi:xs[i]?=some (.lst l o))(ho:Owned s o T' sz l.length)
  (hrs:∀r,r∈rs'→r=(i,T',sz)∨(r∈rs∧r.1≠i)):GS s ((s.disown o).set b (.pk T (xs.set i (.lst l .no)) rs')):=by
 intro w0 G w h
 have hob:=h.ok b
 rw[hb]at hob
 obtain⟨hB,hn,c,hc,hsz,hx⟩:=hob
 obtain⟨m,h1,h2,h3⟩:=h.rows
 obtain⟨ho1,v,hv,hR⟩:=hx i _ hi
 have hkey:∀x,x≠b→∀c,CellOk w0.heap.size G w x c→CellOk w0.heap.size G w x c:=fun _ _ _ h=>h
 have hnb:NotOwn o b:=by
  cases o with
  |at_ g=>rintro rfl;simp only[Owned]at ho;rw[hb]at ho;cases ho
  |_=>trivial
 have hdis:∀x,x≠b→(s.disown o) x=s x∨(s.disown o) x=.free:=fun x _=>by
  cases o with
  |at_ g=>
   simp only[St.disown,St.set]
   by_cases hg:x=g<;>simp[hg]
  |_=>exact .inl rfl
 have hcell:∀j x,(xs.set i (.lst l .no))[j]?=some x→x.one=true∧∃v,c[j]?=some v∧R G v x:=fun j x hj=>by
  by_cases hji:j=i
  ·subst hji
   rw[set_some hi]at hj
   injection hj with hj
   subst hj
   exact⟨rfl,v,hv,hR.unown⟩
  ·rw[List.getElem?_set_ne (Ne.symm hji)]at hj
   exact hx j x hj
 have hmain:∃m':Nat→Nat→Option Nat,
   (∀b i b' i' g,m' b i=some g→m' b' i'=some g→b=b'∧i=i') ∧
   (∀b' i' g,m' b' i'=some g→((s.disown o).set b (.pk T (xs.set i (.lst l .no)) rs')) g=.free∧g<w.heap.size) ∧
   (∀b' i',(b'≠b∨i'≠i)→m' b' i'=m b' i')∧RowAt w0.heap.size G w m' b T (xs.set i (.lst l .no)) i T' sz:=by
  cases o with
  |no=>exact ho.elim
  |full=>
   have hl:l=[]:=List.eq_nil_of_length_eq_zero ho
   subst hl
   refine⟨m,h1,fun b' i' g hm=>⟨?_,(h2 b' i' g hm).2⟩,fun _ _ _=>rfl,c,[],hc,set_some hi,.inl ⟨rfl,?_⟩⟩
   ·have:=(h2 b' i' g hm).1
    rw[St.set_other _ _ (by rintro rfl;rw[hb]at this;cases this)]
    exact this
   ·rw[hv]
    generalize hq:VV.lst [] .full=q at hR
    cases hR with
    |emp a cap o ho'=>
     injection hq with _ hq;subst hq
     rcases ho' with e|⟨_,rfl,rfl⟩
     ·cases e
     ·rfl
    |lst b' off len cap sz' xs' o f hl hc' hz h1' hK hR' ho'=>
     injection hq with hq1 hq2;subst hq1;subst hq2
     rcases ho' with e|⟨_,e1,e2⟩|⟨e,_⟩
     ·cases e
     ·simp at hl;omega
     ·cases e
    |_=>cases hq
  |at_ g=>
   have hgv:s g=.vec T' sz l.length:=ho
   have hgb:g≠b:=fun e=>(hnb:¬ b=g) e.symm
   refine⟨fun b' i'=>if b'=b∧i'=i then some g else m b' i',fun b1 i1 b2 i2 g' e1 e2=>?_,fun b' i' g' hm=>?_,fun b' i' hne=>?_,c,l,hc,set_some hi,.inr ?_⟩
   ·by_cases hA:b1=b∧i1=i
    ·by_cases hB':b2=b∧i2=i
     ·exact⟨hA.1.trans hB'.1.symm,hA.2.trans hB'.2.symm⟩
     ·simp only[if_pos hA,if_neg hB']at e1 e2
      injection e1 with e1;subst e1
      have:=(h2 _ _ _ e2).1;rw[hgv]at this;cases this
    ·by_cases hB':b2=b∧i2=i
     ·simp only[if_neg hA,if_pos hB']at e1 e2
      injection e2 with e2;subst e2
      have:=(h2 _ _ _ e1).1;rw[hgv]at this;cases this
     ·simp only[if_neg hA,if_neg hB']at e1 e2
      exact h1 _ _ _ _ _ e1 e2
   ·by_cases hA:b'=b∧i'=i
    ·simp only[if_pos hA]at hm
     injection hm with hm;subst hm
     rw[St.set_other _ _ hgb]
     refine⟨by simp[St.disown,St.set],h.lt (by rw[hgv];simp)⟩
    ·simp only[if_neg hA]at hm
     obtain⟨a1,a2⟩:=h2 _ _ _ hm
     refine⟨?_,a2⟩
     rw[St.set_other _ _ (by rintro rfl;rw[hb]at a1;cases a1)]
     simp only[St.disown,St.set]
     by_cases hgg:g'=g
     ·simp[hgg]
     ·simp[hgg,a1]
   ·have:¬ (b'=b∧i'=i):=by rintro⟨e1,e2⟩;rcases hne with h|h;exact h e1;exact h e2
    simp only[if_neg this]
   ·have hvec:=h.ok g
    rw[hgv]at hvec
    generalize hq:VV.lst l (.at_ g)=q at hR
    cases hR with
    |emp a cap o ho'=>
     injection hq with _ hq;subst hq
     rcases ho' with e|⟨e,_⟩<;>cases e
    |lst b' off len cap sz' xs' o f hl hc' hz h1' hK hR' ho'=>
     injection hq with hq1 hq2;subst hq1;subst hq2
     rcases ho' with e|⟨e,_⟩|⟨e,e1,e2⟩
     ·cases e
     ·cases e
     ·injection e with e
      subst e;subst e1
      subst hl
      exact⟨g,cap,by simp,hv,.lst g 0 _ cap sz' l (.at_ g) f rfl hc' hz h1' hK hR' (.inr (.inr ⟨rfl,rfl,e2⟩)),hvec⟩
    |_=>cases hq
 obtain⟨m',n1,n2,n3,n4⟩:=hmain
 refine⟨h.below,h.K,h.cap,fun x=>?_,h.gl,m',n1,n2,fun b' T2 xs2 rs2 j T3 sz3 hb' hr=>?_⟩
 ·by_cases hxb:x=b
  ·subst hxb
   rw[St.set_same]
   exact⟨hB,hn,c,hc,by rw[hsz,List.length_set],hcell⟩
  ·rw[St.set_other _ _ hxb]
   rcases hdis x hxb with e|e
   ·rw[e];exact h.ok x
   ·rw[e];trivial
 ·by_cases hxb:b'=b
  ·subst hxb
   rw[St.set_same]at hb'
   injection hb' with e1 e2 e3
   subst e1;subst e2;subst e3
   rcases hrs _ hr with e|⟨hr1,hne⟩
   ·injection e with e1 e2;injection e2 with e2 e3
    subst e1;subst e2;subst e3
    exact n4
   ·obtain⟨c',l',d1,d2,d3⟩:=h3 _ _ _ _ _ _ _ hb hr1
    exact⟨c',l',d1,by rw[List.getElem?_set_ne (Ne.symm hne)];exact d2,by rw[n3 b' j (.inr hne)];exact d3⟩
  ·rw[St.set_other _ _ hxb]at hb'
   have hb2:s b'=.pk T2 xs2 rs2:=by
    rcases hdis b' hxb with e|e
    ·rw[← e];exact hb'
    ·rw[e]at hb';cases hb'
   obtain⟨c',l',d1,d2,d3⟩:=h3 _ _ _ _ _ _ _ hb2 hr
   exact⟨c',l',d1,d2,by rw[n3 b' j (.inl hxb)];exact d3⟩
theorem Sim.unpack (h:Sim w0 G w s){i:Nat}{l:List (List VV)}{T':TypeId}{sz:Nat}(hb:s b=.pk T xs rs)(hi:xs[i]?=some (.lst l .no))(hr:(i,T',sz)∈rs)
  (hrs:∀r,r∈rs'→r∈rs∧r.1≠i):∃o,OwnOk s o l.length∧NotOwn o b∧Sim w0 G w ((s.own o T' sz l.length).set b (.pk T (xs.set i (.lst l o)) rs')):=by
 have hob:=h.ok b
 rw[hb]at hob
 obtain⟨hB,hn,c,hc,hsz,hx⟩:=hob
 obtain⟨m,h1,h2,h3⟩:=h.rows
 obtain⟨c',l',d1,d2,d3⟩:=h3 _ _ _ _ _ _ _ hb hr
 rw[hc]at d1
 injection d1 with d1;injection d1 with d1;subst d1
 rw[hi]at d2
 injection d2 with d2;injection d2 with d2;subst d2
 have hcell:∀o v,c[i]?=some v→R G v (.lst l o)→∀j x,(xs.set i (.lst l o))[j]?=some x→x.one=true∧∃v,c[j]?=some v∧R G v x:=fun o v hv hR j x hj=>by
  by_cases hji:j=i
  ·subst hji
   rw[set_some hi]at hj
   injection hj with hj
   subst hj
   exact⟨rfl,v,hv,hR⟩
  ·rw[List.getElem?_set_ne (Ne.symm hji)]at hj
   exact hx j x hj
 rcases d3 with ⟨hl,hv⟩|⟨g,cap,hm,hv,hR,hvec⟩
 ·subst hl
  refine⟨.full,rfl,trivial,h.below,h.K,h.cap,fun x=>?_,h.gl,m,h1,fun b' i' g hm=>⟨?_,(h2 b' i' g hm).2⟩,fun b' T2 xs2 rs2 j T3 sz3 hb' hr'=>?_⟩
  ·by_cases hxb:x=b
   ·subst hxb
    rw[St.set_same]
    exact⟨hB,hn,c,hc,by rw[hsz,List.length_set],hcell .full _ hv (.emp _ _ _ (.inr ⟨rfl,rfl,rfl⟩))⟩
   ·rw[St.set_other _ _ hxb];exact h.ok x
  ·have:=(h2 b' i' g hm).1
   rw[St.set_other _ _ (by rintro rfl;rw[hb]at this;cases this)]
   exact this
  ·by_cases hxb:b'=b
   ·subst hxb
    rw[St.set_same]at hb'
    injection hb' with e1 e2 e3
    subst e1;subst e2;subst e3
    obtain⟨hr1,hne⟩:=hrs _ hr'
    obtain⟨c',l',d1,d2,d3⟩:=h3 _ _ _ _ _ _ _ hb hr1
    exact⟨c',l',d1,by rw[List.getElem?_set_ne (Ne.symm hne)];exact d2,d3⟩
   ·rw[St.set_other _ _ hxb]at hb'
    exact h3 _ _ _ _ _ _ _ hb' hr'
 ·obtain⟨hgf,hgl⟩:=h2 _ _ _ hm
  have hgb:g≠b:=by rintro rfl;rw[hb]at hgf;cases hgf
  refine⟨.at_ g,hgf,fun e=>hgb e.symm,h.below,h.K,h.cap,fun x=>?_,h.gl,fun b' i'=>if b'=b∧i'=i then none else m b' i',fun b1 i1 b2 i2 g' e1 e2=>?_,fun b' i' g' hm'=>?_,fun b' T2 xs2 rs2 j T3 sz3 hb' hr'=>?_⟩
  ·by_cases hxb:x=b
   ·subst hxb
    rw[St.set_same]
    exact⟨hB,hn,c,hc,by rw[hsz,List.length_set],hcell _ _ hv hR⟩
   ·rw[St.set_other _ _ hxb]
    simp only[St.own,St.set]
    by_cases hxg:x=g
    ·subst hxg;simp only[if_true];exact hvec
    ·simp only[if_neg hxg];exact h.ok x
  ·by_cases hA:b1=b∧i1=i
   ·simp only[if_pos hA]at e1;cases e1
   ·by_cases hB':b2=b∧i2=i
    ·simp only[if_pos hB']at e2;cases e2
    ·simp only[if_neg hA,if_neg hB']at e1 e2
     exact h1 _ _ _ _ _ e1 e2
  ·by_cases hA:b'=b∧i'=i
   ·simp only[if_pos hA]at hm';cases hm'
   ·simp only[if_neg hA]at hm'
    obtain⟨a1,a2⟩:=h2 _ _ _ hm'
    refine⟨?_,a2⟩
    rw[St.set_other _ _ (by rintro rfl;rw[hb]at a1;cases a1)]
    simp only[St.own,St.set]
    rw[if_neg]
    ·exact a1
    ·rintro rfl
     exact hA (h1 _ _ _ _ _ hm' hm)
  ·by_cases hxb:b'=b
   ·subst hxb
    rw[St.set_same]at hb'
    injection hb' with e1 e2 e3
    subst e1;subst e2;subst e3
    obtain⟨hr1,hne⟩:=hrs _ hr'
    obtain⟨c',l',d1,d2,d3⟩:=h3 _ _ _ _ _ _ _ hb hr1
    refine⟨c',l',d1,by rw[List.getElem?_set_ne (Ne.symm hne)];exact d2,?_⟩
    have hh:(if b'=b'∧j=i then none else m b' j)=m b' j:=if_neg (fun hh=>hne hh.2)
    rcases d3 with d3|⟨g1,cap1,d3,d4⟩
    ·exact .inl d3
    ·exact .inr ⟨g1,cap1,hh.trans d3,d4⟩
   ·rw[St.set_other _ _ hxb]at hb'
    have hb2:s b'=.pk T2 xs2 rs2:=by
     simp only[St.own,St.set]at hb'
     by_cases hxg:b'=g
     ·subst hxg;simp at hb'
     ·simpa only[if_neg hxg]using hb'
    obtain⟨c',l',d1,d2,d3⟩:=h3 _ _ _ _ _ _ _ hb2 hr'
    refine⟨c',l',d1,d2,?_⟩
    simp only[if_neg (fun hh:b'=b∧j=i=>hxb hh.1)]
    exact d3
theorem R.wkrow {v:Value}{l l':List (List VV)}{o:Own}(hl:l'.length=l.length)(hw:∀(i:Nat) (x':List VV),l'[i]?=some x'→∃x,l[i]?=some x∧WkL x x')(h:R G v (.lst l o)):R G v (.lst l' o):=by
 generalize hq:VV.lst l o=q at h
 cases h with
 |emp a cap o2 ho=>
  injection hq with hq1 hq2;subst hq1;subst hq2
  obtain rfl:l'=[]:=List.eq_nil_of_length_eq_zero hl
  exact .emp _ _ _ ho
 |lst b' off len cap sz' xs' o f hl2 hc' hz h1' hK hR' ho'=>
  injection hq with hq1 hq2;subst hq1;subst hq2
  refine .lst b' off len cap sz' l' _ f (hl.trans hl2) hc' (fun x hx=>?_) (fun x hx y hy=>?_) hK (fun i j x y hx hy=>?_) ho'
  ·obtain⟨i,hi⟩:=List.getElem?_of_mem hx
   obtain⟨x0,h0,h2⟩:=hw i x hi
   rw[← hz x0 (List.mem_of_getElem? h0),h2.len]
  ·obtain⟨i,hi⟩:=List.getElem?_of_mem hx
   obtain⟨j,hj⟩:=List.getElem?_of_mem hy
   obtain⟨x0,h0,h2⟩:=hw i x hi
   obtain⟨y0,h3,_,h4⟩:=h2.get j y hj
   exact h4 (h1' x0 (List.mem_of_getElem? h0) y0 (List.mem_of_getElem? h3))
  ·obtain⟨x0,h0,h2⟩:=hw i x hx
   obtain⟨y0,h3,h4,_⟩:=h2.get j y hy
   exact h4 _ _ (hR' i j x0 y0 h0 h3)
 |_=>cases hq
theorem GS.wkrow {i:Nat}{l l':List (List VV)}(hb:s b=.pk T xs rs)(hi:xs[i]?=some (.lst l .no))(hl:l'.length=l.length)(hw:∀(i:Nat) (x':List VV),l'[i]?=some x'→∃x,l[i]?=some x∧WkL x x') :
  GS s (s.set b (.pk T (xs.set i (.lst l' .no)) rs)):=by
 intro w0 G w h
 have hob:=h.ok b
 rw[hb]at hob
 obtain⟨hB,hn,c,hc,hsz,hx⟩:=hob
 obtain⟨m,h1,h2,h3⟩:=h.rows
 refine⟨h.below,h.K,h.cap,fun x=>?_,h.gl,m,h1,fun b' i' g hm=>⟨?_,(h2 b' i' g hm).2⟩,fun b' T2 xs2 rs2 j T3 sz3 hb' hr=>?_⟩
 ·by_cases hxb:x=b
  ·subst hxb
   rw[St.set_same]
   refine⟨hB,hn,c,hc,by rw[hsz,List.length_set],fun j y hj=>?_⟩
   by_cases hji:j=i
   ·subst hji
    rw[set_some hi]at hj
    injection hj with hj
    subst hj
    obtain⟨_,v,hv,hR⟩:=hx j _ hi
    exact⟨rfl,v,hv,hR.wkrow hl hw⟩
   ·rw[List.getElem?_set_ne (Ne.symm hji)]at hj
    exact hx j y hj
  ·rw[St.set_other _ _ hxb];exact h.ok x
 ·have:=(h2 b' i' g hm).1
  rw[St.set_other _ _ (by rintro rfl;rw[hb]at this;cases this)]
  exact this
 ·by_cases hxb:b'=b
  ·subst hxb
   rw[St.set_same]at hb'
   injection hb' with e1 e2 e3
   subst e1;subst e2;subst e3
   obtain⟨c',l0,d1,d2,d3⟩:=h3 _ _ _ _ _ _ _ hb hr
   by_cases hji:j=i
   ·subst hji
    rw[hi]at d2
    injection d2 with d2;injection d2 with d2;subst d2
    refine⟨c',l',d1,set_some hi,?_⟩
    rcases d3 with ⟨d3,d4⟩|⟨g,cap,e1,e2,e3,e4⟩
    ·subst d3
     exact .inl ⟨List.eq_nil_of_length_eq_zero hl,d4⟩
    ·refine .inr ⟨g,cap,e1,?_,?_,?_⟩
     ·rw[hl];exact e2
     ·have:=e3.wkrow hl hw
      rw[hl];exact this
     ·rw[hl];exact e4
   ·exact⟨c',l0,d1,by rw[List.getElem?_set_ne (Ne.symm hji)];exact d2,d3⟩
  ·rw[St.set_other _ _ hxb]at hb'
   exact h3 _ _ _ _ _ _ _ hb' hr
end
section
variable {P : Program} {N : Nat} {D : List Deferred} {k : List Itm} {Q : Pst} {env : Env} {s : St} {c : Code}
theorem ownok_pk {o:Own}{n b:Nat}{T:TypeId}{xs:List VV}{rs:List (Nat×TypeId×Nat)}:OwnOk (s.set b (.pk T xs rs)) o n=(NotOwn o b∧OwnOk s o n):=by
 cases o with
 |at_ x=>
  simp only[OwnOk,NotOwn,St.set]
  by_cases h:x=b
  ·simp[h]
  ·have h':¬ b=x:=fun e=>h e.symm
   simp[h,h']
 |_=>simp[OwnOk,NotOwn]
theorem Kp_gs {s':St}(hg:GS s s')(h:Kp P N D (.code c::k) Q .norm env s'):Kp P N D (.code c::k) Q .norm env s:=
 fun w0 G w a hfr hD hS=>h w0 G w a hfr hD (hg _ _ _ hS)
theorem Kp_unpk (b i:Nat){T:TypeId}{xs:List VV}{rs:List (Nat×TypeId×Nat)}{l:List (List VV)}{T':TypeId}{sz:Nat}(rs':List (Nat×TypeId×Nat))
  (hb:s b=.pk T xs rs) (hi:xs[i]?=some (.lst l .no)) (hr:(i,T',sz)∈rs) (hrs:∀r,r∈rs'→r∈rs∧r.1≠i)
  (h:∀o,OwnOk s o l.length→NotOwn o b→Kp P N D (.code c::k) Q .norm env ((s.own o T' sz l.length).set b (.pk T (xs.set i (.lst l o)) rs'))):Kp P N D (.code c::k) Q .norm env s:=
 fun w0 G w a hfr hD hS=>let ⟨o,h1,h2,h3⟩:=hS.unpack hb hi hr hrs;h o h1 h2 w0 G w a hfr hD h3
theorem SCalls.gs {f:FuncId}{xs:List VV}{Q:SEnd→St→Prop}(h:SCalls P f xs s fun e t=>∃t',GS t t'∧Q e t'):SCalls P f xs s Q:=by
 intro w0 G w vs hS hR
 refine(h w0 G w vs hS hR).mono ?_
 rintro e w' ⟨G',s',x,hG,hS',hE,t',hg,hq⟩
 exact⟨G',t',x,hG,hg _ _ _ hS',hE,hq⟩
theorem G_loopS (I:Nat→Env→St→Prop)(n:Nat)(h0:∃s0,GS s s0∧I n env s0)
  (hr:∀n env s,I n env s→Kp P N D (.code c::.back (fun env' s'=>∃s'',GS s' s''∧∃m,m<n∧I m env' s'')::k) Q .norm env s) :
  Kp P N D (.code (.loop c)::k) Q .norm env s:=by
 obtain⟨s0,hf,h0⟩:=h0
 refine Kp_gs hf ?_
 refine L_loop (fun n env s'=>∃s'',GS s' s''∧I n env s'') n ⟨s0,GS.refl _,h0⟩ ?_
 rintro n env s' ⟨s'',hf,hI⟩
 refine Kp_gs hf ?_
 refine Kp_back_mono ?_ (hr n env s'' hI)
 rintro env s ⟨s3,h1,m,hm,h2⟩
 exact⟨m,hm,s3,h1,h2⟩
end
theorem set_free_self {s:St}{b:Nat}(h:s b=.free):s.set b .free=s:=St.set_self s b .free h
theorem row_freed {s:St}{b b':Nat}(h:b'=b∨s b'=.free):(s.set b .free) b'=.free:=by
 by_cases e:b'=b
 ·subst e;exact St.set_same _ _ _
 ·rw[St.set_other _ _ e];rcases h with h|h
  ·exact absurd h e
  ·exact h
section
variable {k : VV → St → Prop} {e : TypeId} {q : QI} {b n : Nat} {xs : List VV} {ys : List (List VV)} {s S' : St}
theorem W_appM (h:∀b',S' b'=.free→k (.mrw b' (n+ys.length)) (S'.set b' (.row e q.sz (xs++ys.flatten))))
  (hb:s b=.row e q.sz xs:=by((try simp(disch:=first|assumption|omega) only[go_sem,seval, *]);rfl))
  (hl:xs.length=n * q.sz:=by first|assumption|omega|((try simp only[go_sem,List.length_map, *]);first|rfl|omega)|((try simp only[go_sem,List.length_map,List.length_cons,List.length_nil, *]);omega)|simp only[go_sem,List.length_map,List.length_cons,List.length_nil, *])
  (hS:s.set b .free=S':=by((try simp(disch:=first|assumption|omega) only[go_sem,seval,set_free_self, *]);rfl))
  (h1:(n+ys.length) * q.bt≤140737488355328:=by first|((try simp only[go_sem, *]);omega)|simp only[go_sem, *])
  (h2:n+ys.length≤9223372036854775807:=by first|((try simp only[go_sem, *]);omega)|simp only[go_sem, *])
  (hy:∀y,y∈ys→y.length=q.sz:=by first|assumption|(intro y hy;simp only[List.mem_singleton]at hy;subst hy;first|rfl|(simp only[go_sem];done)|(simp;done)))
  (hz:q.zok=true:=by rfl):vappendM k e q b n ys s:=
 ⟨xs,hb,hl,h1,h2,hy,hz,fun b' hb'=>by rw[hS];exact h b' (hS ▸ row_freed hb')⟩
theorem W_app0 (h:∀b',s b'=.free→k (.mrw b' ys.length) (s.set b' (.row e q.sz ys.flatten)))
  (h0:ys≠[]:=by first|assumption|simp)
  (h1:ys.length * q.bt≤140737488355328:=by first|((try simp only[go_sem, *]);omega)|simp only[go_sem, *])
  (h2:ys.length≤9223372036854775807:=by first|((try simp only[go_sem, *]);omega)|simp only[go_sem, *])
  (hy:∀y,y∈ys→y.length=q.sz:=by first|assumption|(intro y hy;simp only[List.mem_singleton]at hy;subst hy;first|rfl|(simp only[go_sem];done)|(simp;done)))
  (hz:q.zok=true:=by rfl):vappend0 k e q ys s:=⟨h0,h1,h2,hy,hz,h⟩
end
section
variable {w0 w : World} {G : Gh} {s : St} {b g i n : Nat} {T T' : TypeId} {xs cs : List VV}
end
section
variable {P : Program} {N : Nat} {D : List Deferred} {k : List Itm} {Q : Pst} {env : Env} {s : St} {c : Code}
end
open Go.RowKit Go.Lib
def rowV (r:List Int):VV:=.lst (intsL r) .no
theorem row_read {G:Gh}{v:Value}{r:List Int}{o:Own}(h:R G v (.lst (intsL r) o)) :
  ∃ba b off c,v=.slice ba r.length c∧(r.length=0∨ba=some ⟨b,off,none⟩)∧∀(j:Nat) (x:Int),r[j]?=some x→G.K b (off+j)=some (.int .i64 x):=by
 generalize hl:intsL r=l at h
 cases h with
 |emp a cap o ho=>
  have:r=[]:=by cases r with
   |nil=>rfl
   |cons a t=>cases hl
  subst this
  exact⟨a,0,0,cap,rfl,.inl rfl,fun j x hx=>by simp at hx⟩
 |lst b off len cap sz xs o f hl' hc hz h1 hK hR ho=>
  subst hl
  rw[intsL_len]at hl'
  subst hl'
  refine⟨_,b,off,cap,rfl,.inr rfl,fun j x hx=>?_⟩
  have hj:=(List.getElem?_eq_some_iff.1 hx).1
  have hsz:sz=1:=by
   have:=hz [VV.int .i64 x] (List.mem_of_getElem? (intsL_at hx))
   simpa using this.symm
  subst hsz
  have h2:=hK j 0 hj (by omega)
  have h3:=hR j 0 [VV.int .i64 x] (.int .i64 x) (intsL_at hx) rfl
  cases h4:f j 0 with
  |int k n=>rw[h4]at h3 h2;cases h3;simpa using h2
  |_=>rw[h4]at h3;cases h3
section
variable {s : St}
theorem Compare_S (a b:List Int)(o1 o2:Own)(s:St)(h1:a.length≤140737488355328)(h2:b.length≤140737488355328):SRet Tryz.prog 33 [.lst (intsL a) o1,.lst (intsL b) o2] s (.int .i64 (cmpZ a b)) s:=by
 intro w0 G w vs hS hA
 obtain⟨v1,v2,rfl,r1,r2⟩:=RL_two hA
 obtain⟨ba,b1,f1,c1,rfl,g1,k1⟩:=row_read r1
 obtain⟨bb,b2,f2,c2,rfl,g2,k2⟩:=row_read r2
 refine(cmp_raw ba bb b1 f1 c1 b2 f2 c2 a b w h1 h2 g1 g2 (fun j x hx=>hS.K _ _ _ (k1 j x hx)) fun j x hx=>hS.K _ _ _ (k2 j x hx)).mono ?_
 rintro e w' ⟨rfl,rfl⟩
 exact⟨G,s,.ret (.int .i64 (cmpZ a b)),Gh.le.refl G,hS,R.int .i64 _,rfl,rfl⟩
end
end Go.Proofs.YtgdbgfjhenobdaaGreatDoor
namespace Go.Proofs.YtgdbgfjhenobdaaGreatDoor
open Go.RowKit Go.Lib
theorem Sim.know {w0 w w':World}{G:Gh}{s:St}(h:Sim w0 G w s)(hb:Below w.heap.size w w')(b:Nat)(hlt:w.heap.size≤b)(F:Nat→Option Value)(hF:∀i v,F i=some v→w'.cell? ⟨b,i,none⟩=some v) :
  ∃G',G.le G'∧Sim w0 G' w' s∧∀i v,F i=some v→G'.K b i=some v:=by
 have hn:∀i,G.K b i=none:=fun i=>by
  cases hk:G.K b i with
  |none=>rfl
  |some v=>exact absurd (h.K_lt hk) (by omega)
 have hle:G.le ⟨fun b' i=>if b'=b then F i else G.K b' i,G.cap⟩:=⟨fun b' i v hv=>by
  by_cases e:b'=b
  ·subst e;rw[hn i]at hv;cases hv
  ·simp only[if_neg e];exact hv,fun _ _ hc=>hc⟩
 have h1:=h.world hb
 refine⟨_,hle,⟨h1.below,fun b' i v hv=>?_,h1.cap,fun b'=>?_,h.gl,?_⟩,fun i v hv=>by simp only[if_true];exact hv⟩
 ·by_cases e:b'=b
  ·subst e
   simp only[if_true]at hv
   exact hF i v hv
  ·simp only[if_neg e]at hv
   exact h1.K b' i v hv
 ·by_cases e:b'=b
  ·subst e
   have hf:s b'=.free:=by
    by_cases hc:s b'=.free
    ·exact hc
    ·exact absurd (h.lt hc) (by omega)
   rw[hf]
   trivial
  ·exact(h1.ok b').keep rfl hle fun i=>if_neg e
 ·exact h.rows.keep' hle hb.size (fun g hl hg=>⟨hg,hb.block g hl,fun i=>if_neg (by omega)⟩) fun x T xs rs hx=>⟨hx,hb.block x (h.lt (by rw[hx];simp))⟩
theorem RL_one {G:Gh}{vs:Array Value}{x:VV}(h:RL G vs [x]):∃a,vs=#[a]∧R G a x:=by
 obtain⟨hs,hr⟩:=h
 obtain⟨l⟩:=vs
 match l,hs,hr with
 |[a],_,hr=>exact⟨a,rfl,hr 0 a x rfl rfl⟩
theorem row_known {G:Gh}{r:List Int}{g cap:Nat}(hc:r.length≤cap)(h:∀(i:Nat) (x:Int),r[i]?=some x→G.K g i=some (.int .i64 x)):R G (.slice (some ⟨g,0,none⟩) r.length cap) (rowV r):=by
 refine .lst g 0 r.length cap 1 (intsL r) .no (fun i _=>.int .i64 ((r[i]?).getD 0)) intsL_len hc ?_ ?_ ?_ ?_ (.inl rfl)
 ·intro x hx
  obtain⟨y,_,rfl⟩:=List.mem_map.1 hx
  rfl
 ·intro x hx y hy
  obtain⟨z,_,rfl⟩:=List.mem_map.1 hx
  rw[List.mem_singleton]at hy
  subst hy
  rfl
 ·intro i j hi hj
  have:j=0:=by omega
  subst this
  rw[List.getElem?_eq_getElem hi]
  simpa using h i r[i] (List.getElem?_eq_getElem hi)
 ·intro i j x y hx hy
  simp only[intsL,List.getElem?_map]at hx
  obtain⟨z,hz,rfl⟩:=Option.map_eq_some_iff.1 hx
  have hj:j=0:=by
   have:=(List.getElem?_eq_some_iff.1 hy).1
   simp at this;exact this
  subst hj
  simp at hy
  subst hy
  simp only[hz,Option.getD_some]
  exact .int .i64 z
theorem own_known {w0 w w':World}{G:Gh}{s:St}{r:List Int}{v':Value}(hS:Sim w0 G w s)(ho:w'.ownsRow w.heap.size 3 1 v' r.length (r.map (Value.int .i64)))(hb:Below w.heap.size w w') :
  ∃G',G.le G'∧Sim w0 G' w' s∧R G' v' (rowV r):=by
 obtain⟨hl,ho⟩:=ho
 rcases ho with ⟨rfl,h0⟩|⟨g,cap,cur,rfl,hge,hh,hcap,hm,hsz,hcur⟩
 ·have:r=[]:=List.eq_nil_of_length_eq_zero h0
  subst this
  exact⟨G,Gh.le.refl G,hS.world hb,.emp none 0 .no (.inl rfl)⟩
 ·obtain⟨G',h1,h2,h3⟩:=hS.know hb g hge (fun i=>if i<r.length then cur[i]? else none) fun i v hv=>by
   split at hv
   ·simp only[World.cell?,hh];exact hv
   ·cases hv
  refine⟨G',h1,h2,row_known hcap fun i x hi=>h3 i _ ?_⟩
  have hil:=(List.getElem?_eq_some_iff.1 hi).1
  simp only[if_pos hil]
  have h4:(cur.toList.take (r.length * 1))[i]?=some (.int .i64 x):=by rw[hcur,List.getElem?_map,hi];rfl
  rw[List.getElem?_take_of_lt (by omega),Array.getElem?_toList]at h4
  exact h4
theorem Clone_S (r:List Int)(o:Own)(s:St)(hl:r.length * 8≤140737488355328):SRet Tryz.prog 22 [.lst (intsL r) o] s (rowV r) s:=by
 intro w0 G w vs hS hA
 obtain⟨v,rfl,hr⟩:=RL_one hA
 obtain⟨ba,b,off,c,rfl,g1,k1⟩:=row_read hr
 rcases g1 with h0|rfl
 ·have:r=[]:=List.eq_nil_of_length_eq_zero h0
  subst this
  cases ba with
  |none=>
   refine(Tryz.slices_Clone_int_nil 0 c w).mono ?_
   rintro e w' ⟨rfl,rfl⟩
   exact⟨G,s,.ret (rowV []),Gh.le.refl G,hS,R.emp none 0 .no (.inl rfl),rfl,rfl⟩
  |some a=>
   refine(Tryz.slices_Clone_int_zero a c w).mono ?_
   rintro e w' ⟨v',rfl,ho,_,hb⟩
   obtain⟨G',h1,h2,h3⟩:=own_known (r:=[]) hS ho hb
   exact⟨G',s,.ret (rowV []),h1,h2,h3,rfl,rfl⟩
 ·refine(Tryz.slices_Clone_int b off r.length c r w (Nat.le_refl _) hl fun j hj=>hS.K _ _ _ (k1 j _ (by rw[List.getElem?_eq_getElem hj,List.getD_eq_getElem?_getD,List.getElem?_eq_getElem hj];rfl))).mono ?_
  rintro e w' ⟨v',rfl,ho,_,hb⟩
  rw[List.take_length]at ho
  obtain⟨G',h1,h2,h3⟩:=own_known hS ho hb
  exact⟨G',s,.ret (rowV r),h1,h2,h3,rfl,rfl⟩
end Go.Proofs.YtgdbgfjhenobdaaGreatDoor
set_option maxRecDepth 100000
namespace Go.Proofs.YtgdbgfjhenobdaaGreatDoor
open Go.RowKit
theorem u8_eq {c d:UInt8}:((c.toNat:Int)=(d.toNat:Int))=(c=d):=by
 apply propext
 rw[Int.natCast_inj,UInt8.toNat_inj]
theorem Rdigit_S (c:UInt8)(s:St):SRet Tryz.prog 93 [.int .u8 c.toNat] s (.bool (digB c)) s:=by
 refine G_enter Tryz.func93 rfl Tryz.ntmps93 rfl fun Q hQ hQe=>?_
 (repeat'(first|refine Ctl ?_|((with_reducible refine Kof.use hK ?_);clear hK hE K E)|((first|(with_reducible refine G_region fun K E hK hE=>?_)|((with_reducible refine W_gd (fun h=>?_) (fun h=>?_))))<;>(try simp(disch:=assumption) only[go_sem,seval, *]))))
 all_goals(refine W_ret res93 hQ ?_)
 all_goals(refine⟨_,_,Wk.of_eq ?_,?_,rfl,rfl⟩)
 all_goals first|exact Fg.refl _|skip
 all_goals(simp only[VV.bool.injEq,digB];grind)
theorem Rpart_S (c:UInt8)(s:St):SRet Tryz.prog 95 [.int .u8 c.toNat] s (.bool (partB c)) s:=by
 refine G_enter Tryz.func95 rfl Tryz.ntmps95 rfl fun Q hQ hQe=>?_
 (repeat'(first|refine Ctl ?_|((with_reducible refine Kof.use hK ?_);clear hK hE K E)|((first|(with_reducible first|refine G_region fun K E hK hE=>?_|refine call_ret can93 (Rdigit_S _ _) ?_)|((with_reducible refine W_gd (fun h=>?_) (fun h=>?_))<;>(try(exfalso;omega))))<;>(try simp(disch:=assumption) only[go_sem,seval, *]))))
 all_goals(refine W_ret res95 hQ ?_)
 all_goals(refine⟨_,_,Wk.of_eq ?_,?_,rfl,rfl⟩)
 all_goals first|exact Fg.refl _|skip
 all_goals(simp only[VV.bool.injEq,partB,digB];grind)
def rpB (d:Bool)(c:UInt8):Bool:=partB c && (!d || digB c)
theorem digB_part {c:UInt8}(h:digB c=true):partB c=true:=by simp[partB,h]
theorem rpB_t (c:UInt8):rpB true c=digB c:=by
 unfold rpB
 cases h:digB c with
 |true=>simp[digB_part h]
 |false=>simp
theorem rpB_f (c:UInt8):rpB false c=partB c:=by simp[rpB]
theorem Rrun_S (l:List UInt8)(a:Nat)(d:Bool)(s:St)(ha:a≤l.length)(hl:l.length≤9223372036854775000) :
    SRet Tryz.prog 94 [.str l,.int .i64 a,.bool d] s (.int .i64 (runN (rpB d) (l.drop a))) s:=by
  refine G_enter Tryz.func94 rfl Tryz.ntmps94 rfl fun Q hQ hQe=>?_
  (repeat'(first|refine Ctl ?_|((with_reducible refine Kof.use hK ?_);clear hK hE K E)|(((with_reducible refine G_region fun K E hK hE=>?_))<;>(try simp(disch:=assumption) only[go_sem,seval, *]))))
  have hle:=runN_le (rpB d) (l.drop a)
  rw[List.length_drop]at hle
  refine L_loop (fun m env s'=>∃k:Nat,k≤runN (rpB d) (l.drop a)∧m+k=runN (rpB d) (l.drop a)∧s'=s∧env 0=.str l∧env 1=.int .i64 a∧env 2=.bool d∧env 7=.int .i64 k) (runN (rpB d) (l.drop a)) ⟨0,by omega,by omega,rfl,by(simp(disch:=assumption) only[go_sem,seval, *]),by(simp(disch:=assumption) only[go_sem,seval, *]),by(simp(disch:=assumption) only[go_sem,seval, *]),by(simp(disch:=assumption) only[go_sem,seval, *])⟩ ?_
  rintro m env s' ⟨k,hk,hm,rfl,e0,e1,e2,e7⟩
  obtain⟨r1,r2,r3⟩:=runN_at (rpB d) (l.drop a) k hk
  simp only[List.getElem?_drop]at r1 r2 r3
  have c1:(a:Int)+(k:Int)=((a+k:Nat):Int):=by omega
  rcases hc:l[a+k]? with _|c
  · have hlt:¬ a+k<l.length:=by have:=List.getElem?_eq_none_iff.1 hc;omega
    have:=r3 hc
    (repeat'(first|refine Ctl ?_|((with_reducible refine Kof.use hK ?_);clear hK hE K E)|((with_reducible refine W_cond (fun h=>?_) (fun h=>?_))<;>(try(exfalso;assumption)))|(((with_reducible refine G_region fun K E hK hE=>?_))<;>(try simp(disch:=omega) only[go_sem,seval,c1, *]))))
    all_goals(refine W_ret res94 hQ ?_)
    all_goals(refine⟨_,_,Wk.of_eq ?_,?_,rfl,rfl⟩)
    · rw[this]
    · exact Fg.refl _
  · have hlt:a+k<l.length:=(List.getElem?_eq_some_iff.1 hc).1
    have hr1:=r1 c hc
    have hr2:=r2 c hc
    clear r1 r2 r3
    (repeat'(first|refine Ctl ?_|((with_reducible refine Kof.use hK ?_);clear hK hE K E)|((with_reducible refine W_cond (fun h=>?_) (fun h=>?_))<;>(try(exfalso;assumption)))|((first|(with_reducible first|refine G_region fun K E hK hE=>?_|refine call_ret can93 (Rdigit_S _ _) ?_|refine call_ret can95 (Rpart_S _ _) ?_)|((with_reducible refine W_gd (fun h=>?_) (fun h=>?_))))<;>(try simp(disch:=omega) only[go_sem,seval,c1, *]))))
    all_goals first
      | (have := hr1 (by simp only [rpB]; grind)
         refine⟨m - 1,by omega,k+1,by omega,by omega,rfl,z_sl,z_sl,z_sl,z_sl⟩)
      |((first|refine W_ret res94 hQ ?_|refine W_norm res94 hQ ?_|refine G_pan hQ ?_);(refine⟨_,_,Wk.of_eq ?_,?_,rfl,rfl⟩)<;>first|exact Fg.refl _|(rw[hr2 (by simp only[rpB];grind)]))
theorem marks_mem (c:UInt8):(0≤Lib.indexByte marks c)=(c∈marks):=by
 have:=Lib.contains_iff_indexByte marks c
 rw[← decide_eq_true_eq (p:=0≤Lib.indexByte marks c),← this];simp
theorem markN_cons (c:UInt8)(r:List UInt8):markN (c::r)=if ((c::r).take 2=[58,45]∨(c::r).take 2=[58,58]∨(c::r).take 2=[33,61])then 2 else if c∈marks then 1 else 0:=by
 have pre:∀p:List UInt8,p.length=2→p.isPrefixOf (c::r)=decide ((c::r).take 2=p):=fun p hp=>by
  rw[← hp]
  by_cases h:p.length≤(c::r).length
  ·exact(prefix_take p _ h).symm
  ·rw[prefix_long p _ h]
   symm
   rw[decide_eq_false_iff_not]
   intro e
   have:=congrArg List.length e
   rw[List.length_take]at this
   omega
 simp only[markN,pre [58,45] rfl,pre [58,58] rfl,pre [33,61] rfl,marks_mem,decide_eq_true_eq]
 grind
theorem take2_drop (l:List UInt8)(a:Nat):List.drop a (List.take (a+2) l)=(l.drop a).take 2:=by
 rw[List.drop_take];simp
theorem Rmark_S (l:List UInt8)(a:Nat)(c:UInt8)(r:List UInt8)(s:St)(hd:l.drop a=c::r)(hl:l.length≤9223372036854775000) :
  SRet Tryz.prog 96 [.str l,.int .i64 a] s (.int .i64 (markN (c::r))) s:=by
 refine G_enter Tryz.func96 rfl Tryz.ntmps96 rfl fun Q hQ hQe=>?_
 have hlen:a+1+r.length=l.length:=by have:=congrArg List.length hd;simp at this;omega
 have hc:l[a]?=some c:=by have:=List.getElem?_drop (xs:=l) (i:=a) (j:=0);rw[hd]at this;simpa using this.symm
 have hT:=take2_drop l a
 rw[hd]at hT
 have c1:(a:Int)+2=((a+2:Nat):Int):=by omega
 have hs:r.length=0→r=[]:=List.eq_nil_of_length_eq_zero
 (repeat'(first|refine Ctl ?_|((with_reducible refine Kof.use hK ?_);clear hK hE K E)|((with_reducible refine W_cond (fun h=>?_) (fun h=>?_))<;>(try(exfalso;assumption)))|((first|(with_reducible first|refine G_region fun K E hK hE=>?_|refine W_if ?_)|((with_reducible refine W_gd (fun h=>?_) (fun h=>?_))))<;>(try simp(disch:=omega) only[go_sem,seval,c1, *]))))
 all_goals try((refine W_ret res96 hQ ?_);(refine⟨_,_,Wk.of_eq ?_,?_,rfl,rfl⟩)<;>first|exact Fg.refl _|(rw[markN_cons];grind))
 all_goals
  have hno:¬ ((c::r).take 2=[58,45]∨(c::r).take 2=[58,58]∨(c::r).take 2=[33,61]):=by
   first|(rw[hs (by omega)];simp;done)|(rw[hT]at *;simp_all;done)
  refine L_loop (fun m env s'=>∃k:Nat,k≤9∧m+k=9∧(∀j,j<k→marks[j]?≠some c)∧s'=s∧env 0=.str l∧env 1=.int .i64 a∧env 6=.int .i64 k) 9 ⟨0,by omega,by omega,by omega,rfl,z_sl,z_sl,z_sl⟩ ?_
  rintro m env s' ⟨k,hk,hm,hj,rfl,e0,e1,e6⟩
  rcases Nat.lt_or_ge k 9 with h9|h9
  ·obtain⟨d,hdk⟩:∃d,marks[k]?=some d:=⟨_,List.getElem?_eq_getElem (by simp[marks];omega)⟩
   have hmk:([40,41,123,125,44,46,59,61,33]:List UInt8)[k]?=some d:=hdk
   (repeat'(first|refine Ctl ?_|(with_reducible first|(refine Kof.use hK ?_;clear hK hE K E)|(refine Kof.use hKh ?_;clear hKh Kh)|refine G_plan 8 [] [0,1,2,3,4,5] hQe fun K E hK hE=>?_)|((with_reducible refine W_cond (fun h=>?_) (fun h=>?_))<;>(try(exfalso;omega)))|(((with_reducible first|refine G_region fun K E hK hE=>?_|refine P_fin fun Kh hKh=>?_))<;>(try simp(disch:=omega) only[go_sem,seval, *]))))
   all_goals first
    |refine⟨m - 1,by omega,k+1,by omega,by omega,fun j hj1=>?_,rfl,z_sl,z_sl,z_sl⟩
     rcases Nat.lt_or_ge j k with hjk|hjk
     ·exact hj j hjk
     ·have:j=k:=by omega
      subst this
      rw[hdk]
      intro e
      injection e with e
      exact ‹¬ c.toNat=d.toNat› (by rw[e])
    |have hcd:c=d:=UInt8.toNat_inj.1 (of_eq_true ‹(c.toNat=d.toNat)=True›)
     (refine W_ret res96 hQ ?_)
     (refine⟨_,_,Wk.of_eq ?_,?_,rfl,rfl⟩)
     ·rw[markN_cons,if_neg hno,if_pos (hcd ▸ List.mem_of_getElem? hdk)];rfl
     ·exact Fg.refl _
  ·have:k=9:=by omega
   subst this
   have hnm:c∉marks:=fun hm=>by
    obtain⟨j,hj9,e⟩:=List.mem_iff_getElem.1 hm
    exact hj j hj9 (by rw[List.getElem?_eq_getElem hj9,e])
   (repeat'(first|refine Ctl ?_|((with_reducible refine Kof.use hK ?_);clear hK hE K E)|((with_reducible refine W_cond (fun h=>?_) (fun h=>?_))<;>(try(exfalso;assumption)))|(((with_reducible refine G_region fun K E hK hE=>?_))<;>(try simp(disch:=assumption) only[go_sem,seval, *]))))
   all_goals(refine W_ret res96 hQ ?_)
   all_goals(refine⟨_,_,Wk.of_eq ?_,?_,rfl,rfl⟩)
   all_goals first|exact Fg.refl _|(rw[markN_cons,if_neg hno,if_neg hnm];rfl)
def RoneV (a:Nat)(l:List UInt8):VV:=.tup [if (oneK l).2=0∧(oneK l).1=0 then .agg [.int .i64 0,.str [],.int .i64 0] else .agg [.int .i64 (oneK l).1,.str (l.take (oneK l).2),.int .i64 a],.bool (decide (0<(oneK l).2))]
theorem rp_t:rpB true=digB:=funext rpB_t
theorem rp_f:rpB false=partB:=funext rpB_f
theorem Rone_S (l:List UInt8)(a:Nat)(c:UInt8)(r:List UInt8)(s:St)(hd:l.drop a=c::r)(hl:l.length≤9223372036854775000) :
  SRet Tryz.prog 54 [.str l,.int .i64 a] s (RoneV a (c::r)) s:=by
 refine G_enter Tryz.func54 rfl Tryz.ntmps54 rfl fun Q hQ hQe=>?_
 have hlen:a+1+r.length=l.length:=by have:=congrArg List.length hd;simp at this;omega
 have hc:l[a]?=some c:=by have:=List.getElem?_drop (xs:=l) (i:=a) (j:=0);rw[hd]at this;simpa using this.symm
 have h1:=runN_le digB (c::r)
 have h2:=runN_le partB (c::r)
 have h3:(oneK (c::r)).2≤r.length+1:=oneK_le c r
 simp only[List.length_cons]at h1 h2
 have h4:markN (c::r)≤2:=by unfold markN;grind
 have e48:((c.toNat:Int)=48)=(c=48):=u8_eq (c:=c) (d:=48)
 have h5:markN (c::r)≤r.length+1:=by rw[markN_cons];cases r<;>grind
 have hT:∀k,List.drop a (List.take (a+k) l)=(c::r).take k:=fun k=>by rw[List.drop_take,hd];simp
 have c1:∀k:Nat,(a:Int)+(k:Int)=((a+k:Nat):Int):=fun k=>by omega
 (repeat'(first|refine Ctl ?_|((with_reducible refine Kof.use hK ?_);clear hK hE K E)|((with_reducible refine W_cond (fun h=>?_) (fun h=>?_))<;>(try(exfalso;assumption)))|((first|(with_reducible first|refine G_region fun K E hK hE=>?_|refine call_ret can93 (Rdigit_S _ _) ?_|refine call_ret can95 (Rpart_S _ _) ?_|refine call_ret can94 (Rrun_S _ _ _ _ (by omega) (by assumption)) ?_|refine call_ret can96 (Rmark_S _ _ _ _ _ (by assumption) (by assumption)) ?_|refine W_if ?_)|((with_reducible refine W_fresh (fun b hb=>?_));(repeat(obtain⟨_,hb⟩:=hb)))|((with_reducible refine W_gd (fun h=>?_) (fun h=>?_))))<;>(try simp(disch:=first|assumption|omega) only[go_sem,seval,c1,hd,rp_t,rp_f, *]))))
 all_goals(refine W_ret res54 hQ ?_)
 all_goals(refine⟨_,_,Wk.of_eq ?_,?_,rfl,rfl⟩)
 all_goals first|(exact z_fg)|skip
 all_goals(simp only[RoneV,oneK,VV.tup.injEq,List.cons.injEq,VV.bool.injEq,and_true,List.length_cons];grind)
def RisB (k:Nat)(t:List UInt8):Bool:=decide (t≠[]∧t.length≤32∧oneK t=(k,t.length))
theorem Ris_S (k:Nat)(t:List UInt8)(a:Int)(s:St):SRet Tryz.prog 97 [.agg [.int .i64 k,.str t,.int .i64 a]] s (.bool (RisB k t)) s:=by
 refine G_enter Tryz.func97 rfl Tryz.ntmps97 rfl fun Q hQ hQe=>?_
 rcases t with _|⟨c,r⟩
 ·(repeat'(first|refine Ctl ?_|((with_reducible refine Kof.use hK ?_);clear hK hE K E)|((with_reducible refine W_cond (fun h=>?_) (fun h=>?_))<;>(try(exfalso;assumption)))|((first|(with_reducible refine G_region fun K E hK hE=>?_)|((with_reducible refine W_fresh (fun b hb=>?_))))<;>(try simp(disch:=assumption) only[go_sem,seval, *]))))
  all_goals(refine W_ret res97 hQ ?_)
  all_goals(refine⟨_,_,Wk.of_eq ?_,?_,rfl,rfl⟩)
  all_goals first|(exact z_fg)|skip
  all_goals simp[RisB]
 ·have h3:(oneK (c::r)).2≤r.length+1:=oneK_le c r
  have htk:((c::r).take (oneK (c::r)).2=c::r)=((oneK (c::r)).2=r.length+1):=by
   apply propext
   constructor
   ·intro e;have:=congrArg List.length e;rw[List.length_take]at this;simp only[List.length_cons]at this;omega
   ·intro e;rw[e];exact List.take_of_length_le (by simp)
  by_cases hz:(oneK (c::r)).2=0∧(oneK (c::r)).1=0
  ·have hv:RoneV 0 (c::r)=.tup [.agg [.int .i64 0,.str [],.int .i64 0],.bool false]:=by simp only[RoneV];rw[if_pos hz];simp[hz.1]
   have hone:=fun(hl:(c::r).length≤9223372036854775000) (s:St)=>hv ▸ Rone_S (c::r) 0 c r s rfl hl
   clear hv
   (repeat'(first|refine Ctl ?_|((with_reducible refine Kof.use hK ?_);clear hK hE K E)|((with_reducible refine W_cond (fun h=>?_) (fun h=>?_)))|((first|(with_reducible first|refine G_region fun K E hK hE=>?_|refine call_ret can54 (hone (by simp;omega) _) ?_)|((with_reducible refine W_fresh (fun b hb=>?_));(repeat(obtain⟨_,hb⟩:=hb))))<;>(try simp(disch:=assumption) only[go_sem,seval, *]))))
   all_goals(refine W_ret res97 hQ ?_)
   all_goals(refine⟨_,_,Wk.of_eq ?_,?_,rfl,rfl⟩)
   all_goals first|(exact z_fg)|skip
   all_goals(simp only[RisB,VV.bool.injEq];grind)
  ·have hv:RoneV 0 (c::r)=.tup [.agg [.int .i64 (oneK (c::r)).1,.str ((c::r).take (oneK (c::r)).2),.int .i64 0],.bool (decide (0<(oneK (c::r)).2))]:=by simp only[RoneV];rw[if_neg hz];rfl
   have hone:=fun(hl:(c::r).length≤9223372036854775000) (s:St)=>hv ▸ Rone_S (c::r) 0 c r s rfl hl
   clear hv
   (repeat'(first|refine Ctl ?_|((with_reducible refine Kof.use hK ?_);clear hK hE K E)|((with_reducible refine W_cond (fun h=>?_) (fun h=>?_)))|((first|(with_reducible first|refine G_region fun K E hK hE=>?_|refine call_ret can54 (hone (by simp;omega) _) ?_)|((with_reducible refine W_fresh (fun b hb=>?_));(repeat(obtain⟨_,hb⟩:=hb)))|((with_reducible refine W_gd (fun h=>?_) (fun h=>?_))))<;>(try simp(disch:=assumption) only[go_sem,seval, *]))))
   all_goals(refine W_ret res97 hQ ?_)
   all_goals(refine⟨_,_,Wk.of_eq ?_,?_,rfl,rfl⟩)
   all_goals first|(exact z_fg)|skip
   all_goals(simp only[RisB,VV.bool.injEq];generalize oneK (c::r)=q at *;obtain⟨q1,q2⟩:=q;grind)
theorem Rsigns_S (l:List UInt8)(hl:l.length≤9223372036854775000)(s:St):SRet Tryz.prog 24 [.str l] s (signsV (lexSigns l)) s:=by
 refine G_enter Tryz.func24 rfl Tryz.ntmps24 rfl fun Q hQ hQe=>?_
 by_cases hbig:16384<l.length
 ·(repeat'(first|refine Ctl ?_|((with_reducible refine Kof.use hK ?_);clear hK hE K E)|((with_reducible refine W_cond (fun h=>?_) (fun h=>?_))<;>(try(exfalso;omega)))|(((with_reducible refine G_region fun K E hK hE=>?_))<;>(try simp(disch:=assumption) only[go_sem,seval, *]))))
  all_goals(refine W_ret res24 hQ ?_)
  all_goals(refine⟨_,_,?_,?_,rfl,rfl⟩)
  ·rw[show lexSigns l=.error (0,1) by unfold lexSigns;rw[if_pos hbig]]
   exact Wk.tup3
  ·exact Fg.refl _
 ·(repeat'(first|refine Ctl ?_|((with_reducible refine Kof.use hK ?_);clear hK hE K E)|((with_reducible refine W_cond (fun h=>?_) (fun h=>?_))<;>(try(exfalso;omega)))|(((with_reducible refine G_region fun K E hK hE=>?_))<;>(try simp(disch:=assumption) only[go_sem,seval, *]))))
  have hr:lexSigns l=lexR l 0 []:=by unfold lexSigns lexR;rw[if_neg (by omega)]
  generalize lexSigns l=r at *
  refine G_loop (fun n env s'=>∃(at_:Nat) (out:List Sgn) (o:Own),at_≤l.length∧n+at_=l.length∧out.length≤4096∧r=lexR (l.drop at_) at_ out∧s'=s.own o 133 3 out.length∧OwnOk s o out.length ∧
   env 0=.str l∧env 5=.lst (out.map sgnC) o∧env 6=.int .i64 at_) l.length ?_ ?_
  ·exact⟨_,Fg.refl _,0,[],.full,Nat.zero_le _,by omega,Nat.zero_le _,by simpa using hr,rfl,rfl,z_sl,z_sl,z_sl⟩
  ·rintro n env s' ⟨at_,out,o,hat,hn,hout,hgo,rfl,hown,e0,e5,e6⟩
   rcases hd:l.drop at_ with _|⟨c,rr⟩
   ·have h1:l.length≤at_:=List.drop_eq_nil_iff.1 hd
    rw[hd,lexR_nil]at hgo
    subst hgo
    (repeat'(first|refine Ctl ?_|((with_reducible refine Kof.use hK ?_);clear hK hE K E)|((with_reducible refine W_cond (fun h=>?_) (fun h=>?_))<;>(try(exfalso;omega)))|(((with_reducible refine G_region fun K E hK hE=>?_))<;>(try simp(disch:=assumption) only[go_sem,seval, *]))))
    all_goals(refine W_ret res24 hQ ?_)
    all_goals(refine⟨_,_,?_,?_,rfl,rfl⟩)
    ·exact Wk.tup3
    ·exact Fg.own hown
   ·have hlen:at_+1+rr.length=l.length:=by have:=congrArg List.length hd;simp at this;omega
    have hc:l[at_]?=some c:=by have:=List.getElem?_drop (xs:=l) (i:=at_) (j:=0);rw[hd]at this;simpa using this.symm
    have hd1:l.drop (at_+1)=rr:=by rw[← List.drop_drop,hd];rfl
    by_cases hb:blankB c=true
    ·rw[hd,lexR_blank hb]at hgo
     rw[blankB_mem]at hb
     have e9:((c.toNat:Int)=9)=(c=9):=u8_eq (c:=c) (d:=9)
     have e10:((c.toNat:Int)=10)=(c=10):=u8_eq (c:=c) (d:=10)
     have e13:((c.toNat:Int)=13)=(c=13):=u8_eq (c:=c) (d:=13)
     have e32:((c.toNat:Int)=32)=(c=32):=u8_eq (c:=c) (d:=32)
     have hbb:=of_decide_eq_true hb
     clear hb
     (repeat'(first|refine Ctl ?_|((with_reducible refine Kof.use hK ?_);clear hK hE K E)|((with_reducible refine W_cond (fun h=>?_) (fun h=>?_))<;>(try(exfalso;first|assumption|omega)))|((first|(with_reducible first|refine G_region fun K E hK hE=>?_|refine call_ret can54 (Rone_S _ _ _ _ _ (by assumption) (by assumption)) ?_)|((with_reducible refine W_gd (fun h=>?_) (fun h=>?_))))<;>(try simp(disch:=omega) only[go_sem,seval, *]))))
     all_goals first
      |(exfalso;grind;done)
      |exact⟨_,Fg.refl _,n - 1,by omega,at_+1,out,o,by omega,by omega,hout,by rw[hd1];exact hgo,rfl,hown,z_sl,z_sl,z_sl⟩
    ·have hbn:¬ (c=32∨c=9∨c=10∨c=13):=by rw[blankB_mem]at hb;simpa using hb
     simp only[not_or]at hbn
     obtain⟨n32,n9,n10,n13⟩:=hbn
     have e9:((c.toNat:Int)=9)=(c=9):=u8_eq (c:=c) (d:=9)
     have e10:((c.toNat:Int)=10)=(c=10):=u8_eq (c:=c) (d:=10)
     have e13:((c.toNat:Int)=13)=(c=13):=u8_eq (c:=c) (d:=13)
     have e32:((c.toNat:Int)=32)=(c=32):=u8_eq (c:=c) (d:=32)
     have e35:((c.toNat:Int)=35)=(c=35):=u8_eq (c:=c) (d:=35)
     by_cases hh:c=35
     ·have hc35:c.toNat=35:=by rw[hh];rfl
      rw[hd,lexR_hash hc35,← hd]at hgo
      replace hh:=eq_true hh
      clear hc35
      (repeat'(first|refine Ctl ?_|((with_reducible refine Kof.use hK ?_);clear hK hE K E)|((with_reducible refine W_cond (fun h=>?_) (fun h=>?_))<;>(try(exfalso;first|assumption|omega)))|(((with_reducible refine G_region fun K E hK hE=>?_))<;>(try simp(disch:=assumption) only[go_sem,seval, *]))))
      refine L_loop (fun m env s'=>∃a2:Nat,a2≤l.length∧m+a2=l.length∧(at_<a2∨a2=at_)∧r=lexR ((l.drop a2).drop (runN noLine (l.drop a2))) (a2+runN noLine (l.drop a2)) out∧s'=s.own o 133 3 out.length∧OwnOk s o out.length ∧
       env 0=.str l∧env 5=.lst (out.map sgnC) o∧env 6=.int .i64 a2) n ⟨at_,by omega,by omega,.inr rfl,hgo,rfl,hown,z_sl,z_sl,z_sl⟩ ?_
      rintro m env2 s2 ⟨a2,ha2,hm,hat2,hgo2,rfl,_,f0,f5,f6⟩
      clear e0 e5 e6 hgo
      rcases hd2:l.drop a2 with _|⟨c2,r2⟩
      ·have h1:l.length≤a2:=List.drop_eq_nil_iff.1 hd2
       have hgo3:r=lexR (l.drop a2) a2 out:=by rw[hgo2,hd2];rfl
       (repeat'(first|refine Ctl ?_|((with_reducible refine Kof.use hK ?_);clear hK hE K E)|((with_reducible refine W_cond (fun h=>?_) (fun h=>?_))<;>(try(exfalso;assumption)))|((first|(with_reducible refine G_region fun K E hK hE=>?_)|((with_reducible refine W_gd (fun h=>?_) (fun h=>?_))<;>(try(exfalso;omega))))<;>(try simp(disch:=assumption) only[go_sem,seval, *]))))
       all_goals exact⟨_,Fg.refl _,l.length - a2,by omega,a2,out,o,by omega,by omega,hout,hgo3,rfl,hown,z_sl,z_sl,z_sl⟩
      ·have hlen2:a2+1+r2.length=l.length:=by have:=congrArg List.length hd2;simp at this;omega
       have hc2:l[a2]?=some c2:=by have:=List.getElem?_drop (xs:=l) (i:=a2) (j:=0);rw[hd2]at this;simpa using this.symm
       have hd3:l.drop (a2+1)=r2:=by rw[← List.drop_drop,hd2];rfl
       have f10:((c2.toNat:Int)=10)=(c2=10):=u8_eq (c:=c2) (d:=10)
       by_cases hnl:c2=10
       ·have hne:¬ a2=at_:=fun e=>by subst e;rw[hc]at hc2;injection hc2 with e2;exact n10 (e2.trans hnl)
        have hgo3:r=lexR (l.drop a2) a2 out:=by
         rw[hgo2,hd2,runN_cons,if_neg (by simp[noLine,hnl])];rfl
        replace hnl:=eq_true hnl
        (repeat'(first|refine Ctl ?_|((with_reducible refine Kof.use hK ?_);clear hK hE K E)|((with_reducible refine W_cond (fun h=>?_) (fun h=>?_))<;>(try(exfalso;assumption)))|((first|(with_reducible refine G_region fun K E hK hE=>?_)|((with_reducible refine W_gd (fun h=>?_) (fun h=>?_))<;>(try(exfalso;omega))))<;>(try simp(disch:=assumption) only[go_sem,seval, *]))))
        all_goals exact⟨_,Fg.refl _,l.length - a2,by omega,a2,out,o,by omega,by omega,hout,hgo3,rfl,hown,z_sl,z_sl,z_sl⟩
       ·have hn2:noLine c2=true:=by simp only[noLine];rw[decide_eq_false (by rw[f10];exact hnl)];rfl
        have hgo3:=hgo2
        rw[hd2,lexR_noline hn2,← hd3]at hgo3
        (repeat'(first|refine Ctl ?_|((with_reducible refine Kof.use hK ?_);clear hK hE K E)|((with_reducible refine W_cond (fun h=>?_) (fun h=>?_))<;>(try(exfalso;assumption)))|((first|(with_reducible refine G_region fun K E hK hE=>?_)|((with_reducible refine W_gd (fun h=>?_) (fun h=>?_))<;>(try(exfalso;omega))))<;>(try simp(disch:=omega) only[go_sem,seval, *]))))
        all_goals exact⟨m - 1,by omega,a2+1,by omega,by omega,by omega,hgo3,rfl,hown,z_sl,z_sl,z_sl⟩
     ·have hc35:¬ c.toNat=35:=fun e=>hh (UInt8.toNat_inj.1 e)
      rw[hd,lexR_sign (by simpa using hb) hc35,← hd]at hgo
      have hone:=fun s=>Rone_S l at_ c rr s hd (by omega)
      have hle:=oneK_le c rr
      rw[← hd]at hle
      simp only[← hd]at hone
      have hll:(l.drop at_).length=l.length - at_:=List.length_drop
      by_cases hz:(oneK (l.drop at_)).2=0
      ·have hv2:∃a1 a2 a3,RoneV at_ (l.drop at_)=.tup [.agg [.int .i64 a1,.str a2,.int .i64 a3],.bool false]:=by
        unfold RoneV
        by_cases hz2:(oneK (l.drop at_)).1=0
        ·rw[if_pos ⟨hz,hz2⟩,hz];exact⟨_,_,_,rfl⟩
        ·rw[if_neg (fun h=>hz2 h.2),hz];exact⟨_,_,_,rfl⟩
       obtain⟨a1,a2,a3,hA⟩:=hv2
       rw[if_pos hz]at hgo
       simp only[hA]at hone
       clear hA
       (repeat'(first|refine Ctl ?_|((with_reducible refine Kof.use hK ?_);clear hK hE K E)|((with_reducible refine W_cond (fun h=>?_) (fun h=>?_))<;>(try(exfalso;first|assumption|omega)))|((first|(with_reducible first|refine G_region fun K E hK hE=>?_|refine call_ret can54 ((hone _)) ?_)|((with_reducible refine W_fresh (fun b hb=>?_));(repeat(obtain⟨_,hb⟩:=hb))))<;>(try simp(disch:=assumption) only[go_sem,seval, *]))))
       all_goals(refine W_ret res24 hQ ?_)
       all_goals(refine⟨_,_,?_,?_,rfl,rfl⟩)
       ·rw[hgo];exact Wk.tup3
       ·(exact z_fg)
      ·have hA:RoneV at_ (l.drop at_)=.tup [.agg [.int .i64 (oneK (l.drop at_)).1,.str ((l.drop at_).take (oneK (l.drop at_)).2),.int .i64 at_],.bool true]:=by
        unfold RoneV
        rw[if_neg (fun h=>hz h.1),decide_eq_true (by omega)]
       simp only[hA]at hone
       rw[if_neg hz]at hgo
       have hdd:(l.drop at_).drop (oneK (l.drop at_)).2=l.drop (at_+(oneK (l.drop at_)).2):=List.drop_drop
       have htl:((l.drop at_).take (oneK (l.drop at_)).2).length=(oneK (l.drop at_)).2:=by rw[List.length_take];omega
       rw[hdd]at hgo
       clear hA
       generalize (l.drop at_).take (oneK (l.drop at_)).2=tx at *
       generalize (oneK (l.drop at_)).1=kd at *
       generalize (oneK (l.drop at_)).2=nn at *
       by_cases hfull:4096≤out.length
       ·rw[if_pos hfull]at hgo
        (repeat'(first|refine Ctl ?_|((with_reducible refine Kof.use hK ?_);clear hK hE K E)|((with_reducible refine W_cond (fun h=>?_) (fun h=>?_))<;>(try(exfalso;first|assumption|omega)))|((first|(with_reducible first|refine G_region fun K E hK hE=>?_|refine call_ret can54 ((hone _)) ?_)|((with_reducible refine W_fresh (fun b hb=>?_));(repeat(obtain⟨_,hb⟩:=hb))))<;>(try simp(disch:=assumption) only[go_sem,seval,List.length_map, *]))))
        all_goals(refine W_ret res24 hQ ?_)
        all_goals(refine⟨_,_,?_,?_,rfl,rfl⟩)
        ·rw[hgo];exact Wk.tup3
        ·(exact z_fg)
       ·rw[if_neg hfull]at hgo
        (repeat'(first|refine Ctl ?_|((with_reducible refine Kof.use hK ?_);clear hK hE K E)|((with_reducible refine W_cond (fun h=>?_) (fun h=>?_))<;>(try(exfalso;first|assumption|omega)))|((first|(with_reducible first|refine G_region fun K E hK hE=>?_|refine call_ret can54 ((hone _)) ?_)|((with_reducible refine W_fresh (fun b hb=>?_));(repeat(obtain⟨_,hb⟩:=hb)))|((with_reducible refine W_app (fun o2 ho=>?_));(repeat(obtain⟨_,ho⟩:=ho))))<;>(try simp(disch:=first|assumption|omega) only[go_sem,seval,List.length_map,htl,vrow, *]))))
        refine⟨_,?_,n - nn,by omega,at_+nn,out++[{ kind:=kd,text:=tx,at_:=at_ }],_,by omega,by omega,by simp;omega,hgo,rfl,by simpa using ho,z_sl,?_,z_sl⟩
        ·simp only[List.length_append,List.length_cons,List.length_nil]
         (exact z_fg)
        ·(simp(disch:=assumption) only[go_sem,seval, *])
         simp[sgnC]
def GoodL (L:List Sgn):Prop:=∀x,x∈L→decide (x.kind=1)=RisB 1 x.text
theorem runN_take (p:UInt8→Bool):∀l:List UInt8,runN p (l.take (runN p l))=runN p l
 |[]=>rfl
 |c::l=>by
  rw[runN_cons]
  split
  ·rename_i h
   rw[List.take_succ_cons,runN_cons,if_pos h,runN_take p l]
  ·rfl
theorem sign_good (c:UInt8)(r:List UInt8)(h:(oneK (c::r)).2≠0):decide ((oneK (c::r)).1=1)=RisB 1 ((c::r).take (oneK (c::r)).2):=by
 obtain⟨n,hn⟩:∃n,(oneK (c::r)).2=n+1:=⟨(oneK (c::r)).2 - 1,by omega⟩
 have hle:=oneK_le c r
 have hl:((c::r).take (n+1)).length=n+1:=by rw[List.length_take];omega
 rw[hn]
 have ht:(c::r).take (n+1)=c::r.take n:=rfl
 by_cases hd:digB c=true
 ·have h1:(oneK (c::r)).1≠1:=by simp only[oneK,hd,if_true];split<;>simp
  have h2:(oneK (c::r.take n)).1≠1:=by simp only[oneK,hd,if_true];split<;>simp
  rw[decide_eq_false h1]
  unfold RisB
  rw[ht,decide_eq_false]
  rintro⟨_,_,e⟩
  rw[e]at h2
  exact h2 rfl
 ·have hd:digB c=false:=by simpa using hd
  by_cases hp:partB c=true
  ·have h0:=h
   simp only[oneK,hd,hp,if_true,Bool.false_eq_true,if_false]at h0 hn ⊢
   by_cases hb:32<runN partB (c::r)
   ·rw[if_pos hb]at h0;exact absurd rfl h0
   ·rw[if_neg hb]at hn
    simp only at hn
    rw[if_neg hb]
    have ho:oneK (c::r.take n)=(1,n+1):=by
     simp only[oneK,hd,hp,if_true,Bool.false_eq_true,if_false]
     have hr:=runN_take partB (c::r)
     rw[hn,ht]at hr
     rw[hr,if_neg (by omega)]
    unfold RisB
    rw[ht]at hl
    rw[ht,ho,hl]
    simp
    omega
  ·have hp:partB c=false:=by simpa using hp
   have h1:(oneK (c::r)).1=3:=by simp only[oneK,hd,hp,Bool.false_eq_true,if_false]
   have h2:(oneK (c::r.take n)).1=3:=by simp only[oneK,hd,hp,Bool.false_eq_true,if_false]
   rw[h1]
   unfold RisB
   rw[ht,decide_eq_false (by decide),decide_eq_false]
   rintro⟨_,_,e⟩
   rw[e]at h2
   cases h2
theorem lexGo_good:∀(f:Nat) (l:List UInt8) (at_:Nat) (out L:List Sgn),GoodL out→out.length≤4096→lexGo f l at_ out=.ok L→GoodL L∧L.length≤4096
 |0,l,at_,out,L,hg,hl,h=>by simp only[lexGo]at h;injection h with h;subst h;exact⟨hg,hl⟩
 |f+1,l,at_,out,L,hg,hl,h=>by
  simp only[lexGo]at h
  cases hd:l.drop (runN blankB l)with
  |nil=>rw[hd]at h;injection h with h;subst h;exact⟨hg,hl⟩
  |cons c r=>
   rw[hd]at h
   simp only at h
   split at h
   ·exact lexGo_good f _ _ _ _ hg hl h
   ·split at h
    ·cases h
    ·rename_i h0
     split at h
     ·cases h
     ·rename_i hf
      refine lexGo_good f _ _ _ _ ?_ (by simp;omega) h
      intro x hx
      rcases List.mem_append.1 hx with hx|hx
      ·exact hg x hx
      ·rw[List.mem_singleton]at hx
       subst hx
       exact sign_good c r h0
theorem lexSigns_good {s:List UInt8}{L:List Sgn}(h:lexSigns s=.ok L):GoodL L∧L.length≤4096:=by
 unfold lexSigns at h
 split at h
 ·cases h
 ·exact lexGo_good _ _ _ _ _ (fun x hx=>by cases hx) (by simp) h
def Ru (s:St)(r:Nat)(e:Nat)(L:List Sgn):St:=s.set r (.obj 113 [.lst (L.map sgnC) .no,.int .i64 e])
def stopU (er at_:Nat):VV:=.iface 109 (.agg [.int .i64 er,.int .i64 at_])
abbrev PU (α:Type):=Except (Nat×Nat) (α×List Sgn)
def bu {α β:Type}(x:PU α)(k:α→List Sgn→PU β):PU β:=
 match x with
 |.ok (a,L)=>k a L
 |.error y=>.error y
theorem bu_ok {α β:Type}{a:α}{L:List Sgn}{k:α→List Sgn→PU β}:bu (.ok (a,L)) k=k a L:=rfl
theorem bu_err {α β:Type}{x:Nat×Nat}{k:α→List Sgn→PU β}:bu (.error x) k=.error x:=rfl
theorem bu_assoc {α β γ:Type}{x:PU α}{k:α→List Sgn→PU β}{k':β→List Sgn→PU γ}:bu (bu x k) k'=bu x fun a L=>bu (k a L) k':=by
 cases x with
 |error y=>rfl
 |ok v=>rfl
def PW {α:Type}(enc:α→VV)(s:St)(r e:Nat)(x:PU α):SEnd→St→Prop:=fun w t=>
 match x with
 |.ok (a,L)=>w=.ret (enc a)∧t=Ru s r e L
 |.error (at_,er)=>w=.panic (stopU er at_)∧∃L,t=Ru s r e L
def PQ {α ι κ:Type}(enc:α→VV)(F:α→List Sgn→ι→St)(C:α→List Sgn→ι→Prop)(G:κ→St)(x:PU α):SEnd→St→Prop:=fun w t=>
 match x with
 |.ok (a,L)=>w=.ret (enc a)∧∃i,t=F a L i∧C a L i
 |.error (at_,er)=>w=.panic (stopU er at_)∧∃L,t=G L
section
variable {P : Program} {N : Nat} {all rest : List Oper} {K : Env → St → Prop} {E : VV → Env → St → Prop} {d : Option Tmp} {env : Env} {f : FuncId} {xs : List VV} {α ι κ : Type} {enc : α → VV} {s s0 : St} {r e : Nat} {x : PU α}
theorem call_pw (hc:Callable P f)(h:SCalls P f xs s0 (PW enc s r e x))
  (hr:∀a L',x=.ok (a,L')→vops P N all K E rest (put N env d (enc a)) (Ru s r e L'))
  (hp:∀at_ er L',x=.error (at_,er)→E (stopU er at_) env (Ru s r e L')) :
  vcall2 P N all K E d rest env s0 f xs:=by
 refine⟨_,.inl ⟨hc,h⟩,?_,?_⟩
 ·intro y t q
  match x,q with
  |.ok (a,L'),q=>obtain⟨e1,e2⟩:=q;injection e1 with e1;subst e1;subst e2;exact hr _ _ rfl
  |.error (at_,er),q=>cases q.1
 ·intro y t q
  match x,q with
  |.ok (a,L'),q=>cases q.1
  |.error (at_,er),q=>obtain⟨e1,L',e2⟩:=q;injection e1 with e1;subst e1;subst e2;exact hp _ _ _ rfl
theorem call_pq {F:α→List Sgn→ι→St}{C:α→List Sgn→ι→Prop}{G:κ→St}(hc:Callable P f)(h:SCalls P f xs s0 (PQ enc F C G x))
  (hr:∀a L' i,x=.ok (a,L')→C a L' i→vops P N all K E rest (put N env d (enc a)) (F a L' i))
  (hp:∀at_ er L',x=.error (at_,er)→E (stopU er at_) env (G L')) :
  vcall2 P N all K E d rest env s0 f xs:=by
 refine⟨_,.inl ⟨hc,h⟩,?_,?_⟩
 ·intro y t q
  match x,q with
  |.ok (a,L'),q=>obtain⟨e1,i,e2,h2⟩:=q;injection e1 with e1;subst e1;subst e2;exact hr _ _ _ rfl h2
  |.error (at_,er),q=>cases q.1
 ·intro y t q
  match x,q with
  |.ok (a,L'),q=>cases q.1
  |.error (at_,er),q=>obtain⟨e1,L',e2⟩:=q;injection e1 with e1;subst e1;subst e2;exact hp _ _ _ rfl
end
theorem SCalls.ret {P:Program}{f:FuncId}{xs:List VV}{α:Type}{enc:α→VV}{s s0:St}{r e:Nat}{a:α}{L:List Sgn}(h:SCalls P f xs s0 (PW enc s r e (.ok (a,L)))):SRet P f xs s0 (enc a) (Ru s r e L):=h
theorem Ru_at {s:St}{r e:Nat}{L:List Sgn}:(Ru s r e L) r=.obj 113 [.lst (L.map sgnC) .no,.int .i64 e]:=St.set_same _ _ _
theorem Ru_mk {s:St}{r e:Nat}{L:List Sgn}:s.set r (.obj 113 [.lst (L.map sgnC) .no,.int .i64 e])=Ru s r e L:=rfl
theorem Ru_gt {s:St}{r e b:Nat}{L:List Sgn}(h:¬ b=r):(Ru s r e L) b=s b:=St.set_other _ _ h
theorem Ru_mk2 {s:St}{r e:Nat}{L L':List Sgn}:(Ru s r e L).set r (.obj 113 [.lst (L'.map sgnC) .no,.int .i64 e])=Ru s r e L':=St.set_set _ _ _ _
theorem Fg.ru {s s':St}(h:Fg s s'){r e:Nat}{L:List Sgn}:Fg (Ru s r e L) (Ru s' r e L):=Fg.set h _ _
attribute [local go_sem] Ru_at Ru_mk2
theorem uis_S (s:St)(r e:Nat)(L:List Sgn)(t:List UInt8):SRet Tryz.prog 76 [.ptr r 0,.str t] (Ru s r e L) (.bool (isT L 0 t)) (Ru s r e L):=by
 refine G_enter Tryz.func76 rfl Tryz.ntmps76 rfl fun Q hQ hQe=>?_
 cases L with
 |nil=>
  (repeat'(first|refine Ctl ?_|((with_reducible refine Kof.use hK ?_);clear hK hE K E)|(((with_reducible refine G_region fun K E hK hE=>?_))<;>(try simp(disch:=assumption) only[go_sem,seval,List.map_nil, *]))))
  all_goals(refine W_ret res76 hQ ?_)
  all_goals(refine⟨_,_,Wk.of_eq ?_,?_,rfl,rfl⟩)
  all_goals first|(exact z_fg)|rfl
 |cons x L=>
  have hl:(L.map sgnC).length=L.length:=by simp
  (repeat'(first|refine Ctl ?_|((with_reducible refine Kof.use hK ?_);clear hK hE K E)|((first|(with_reducible refine G_region fun K E hK hE=>?_)|((with_reducible refine W_gd (fun h=>?_) (fun h=>?_))<;>(try(exfalso;omega))))<;>(try simp(disch:=assumption) only[go_sem,seval,List.map_cons,sgnC,hl, *]))))
  all_goals(refine W_ret res76 hQ ?_)
  all_goals(refine⟨_,_,Wk.of_eq ?_,?_,rfl,rfl⟩)
  all_goals first|(exact z_fg)|rfl
theorem uat_S (s:St)(r e:Nat)(L:List Sgn):SRet Tryz.prog 150 [.ptr r 0] (Ru s r e L) (.int .i64 (place e L)) (Ru s r e L):=by
 refine G_enter Tryz.func150 rfl Tryz.ntmps150 rfl fun Q hQ hQe=>?_
 cases L with
 |nil=>
  (repeat'(first|refine Ctl ?_|((with_reducible refine Kof.use hK ?_);clear hK hE K E)|((with_reducible refine W_cond (fun h=>?_) (fun h=>?_))<;>(try(exfalso;assumption)))|(((with_reducible refine G_region fun K E hK hE=>?_))<;>(try simp(disch:=assumption) only[go_sem,seval,List.map_nil, *]))))
  all_goals(refine W_ret res150 hQ ?_)
  all_goals(refine⟨_,_,Wk.of_eq ?_,?_,rfl,rfl⟩)
  all_goals first|(exact z_fg)|rfl
 |cons x L=>
  have hl:(L.map sgnC).length=L.length:=by simp
  have hp:¬ ((L.length+1:Nat):Int)=0:=by omega
  (repeat'(first|refine Ctl ?_|((with_reducible refine Kof.use hK ?_);clear hK hE K E)|((with_reducible refine W_cond (fun h=>?_) (fun h=>?_))<;>(try(exfalso;assumption)))|(((with_reducible refine G_region fun K E hK hE=>?_))<;>(try simp(disch:=assumption) only[go_sem,seval,List.map_cons,sgnC,hl, *]))))
  all_goals(refine W_ret res150 hQ ?_)
  all_goals(refine⟨_,_,Wk.of_eq ?_,?_,rfl,rfl⟩)
  all_goals first|(exact z_fg)|rfl
theorem ufail_S (s:St)(r e:Nat)(L:List Sgn)(er:Nat):SPan Tryz.prog 124 [.ptr r 0,.int .i64 er] (Ru s r e L) (stopU er (place e L)) (Ru s r e L):=by
 refine G_enter Tryz.func124 rfl Tryz.ntmps124 rfl fun Q hQ hQe=>?_
 (repeat'(first|((with_reducible refine Eof.use hE ?_);(try clear hK hE K E))|(((with_reducible first|refine G_region fun K E hK hE=>?_|refine call_ret can150 (uat_S _ _ _ _) ?_))<;>(try simp(disch:=assumption) only[go_sem,seval, *]))))
 all_goals refine G_pan hQ ?_
 all_goals exact⟨_,Fg.refl _,rfl,rfl⟩
theorem ugiven_S (s:St)(r e:Nat)(L:List Sgn)(t:List UInt8):SRet Tryz.prog 125 [.ptr r 0,.str t] (Ru s r e L) (.bool (isT L 0 t)) (Ru s r e (if isT L 0 t then L.tail else L)):=by
 refine G_enter Tryz.func125 rfl Tryz.ntmps125 rfl fun Q hQ hQe=>?_
 cases h0:isT L 0 t with
 |false=>
  (repeat'(first|refine Ctl ?_|((with_reducible refine Kof.use hK ?_);clear hK hE K E)|((with_reducible refine W_cond (fun h=>?_) (fun h=>?_))<;>(try(exfalso;assumption)))|(((with_reducible first|refine G_region fun K E hK hE=>?_|refine call_ret can76 (uis_S _ _ _ _ _) ?_))<;>(try simp(disch:=assumption) only[go_sem,seval, *]))))
  all_goals(refine W_ret res125 hQ ?_)
  all_goals(refine⟨_,_,Wk.of_eq ?_,?_,rfl,rfl⟩)
  all_goals(try simp only[h0,Bool.false_eq_true,if_false])
  all_goals(exact z_fg)
 |true=>
  cases L with
  |nil=>simp[isT]at h0
  |cons x L=>
   have hl:(L.map sgnC).length=L.length:=by simp
   have ha:=sgn_all2 x L
   (repeat'(first|refine Ctl ?_|((with_reducible refine Kof.use hK ?_);clear hK hE K E)|((with_reducible refine W_cond (fun h=>?_) (fun h=>?_))<;>(try(exfalso;assumption)))|(((with_reducible first|refine G_region fun K E hK hE=>?_|refine call_ret can76 (uis_S _ _ _ _ _) ?_))<;>(try simp(disch:=assumption) only[go_sem,seval,List.map_cons,sgnC,hl,ha,List.drop_succ_cons,List.take_succ_cons,sgn_take,List.tail_cons,Nat.le_refl, *]))))
   all_goals(refine W_ret res125 hQ ?_)
   all_goals(refine⟨_,_,Wk.of_eq ?_,?_,rfl,rfl⟩)
   all_goals(try simp only[h0,if_true])
   all_goals(exact z_fg)
def mustU (e:Nat)(L:List Sgn)(t:List UInt8):PU Unit:=if isT L 0 t then .ok ((),L.tail)else .error (place e L,110)
def roomU (e:Nat)(L:List Sgn)(hv mst:Nat)(b:Bool):PU Unit:=if mst≤hv∧b=true then .error (place e L,2)else .ok ((),L)
def kindU (e:Nat)(L:List Sgn)(k:Nat):PU (List UInt8):=
 match L with
 |[]=>.error (e,110)
 |x::L'=>if x.kind=k then .ok (x.text,L')else .error (x.at_,110)
theorem umust_S (s:St)(r e:Nat)(L:List Sgn)(t:List UInt8):SCalls Tryz.prog 78 [.ptr r 0,.str t] (Ru s r e L) (PW unitV s r e (mustU e L t)):=by
 refine G_enter Tryz.func78 rfl Tryz.ntmps78 rfl fun Q hQ hQe=>?_
 cases h0:isT L 0 t with
 |true=>
  (repeat'(first|refine Ctl ?_|((with_reducible refine Kof.use hK ?_);clear hK hE K E)|((with_reducible refine W_cond (fun h=>?_) (fun h=>?_))<;>(try(exfalso;assumption)))|(((with_reducible first|refine G_region fun K E hK hE=>?_|refine call_ret can125 (ugiven_S _ _ _ _ _) ?_))<;>(try simp(disch:=assumption) only[go_sem,seval, *]))))
  all_goals(refine W_norm res78 hQ ?_)
  all_goals exact⟨_,_,Wk.refl _,Fg.refl _,by simp[mustU,h0,PW,unitV]⟩
 |false=>
  (repeat'(first|refine Ctl ?_|((with_reducible refine Kof.use hK ?_);clear hK hE K E)|((with_reducible refine Eof.use hE ?_);(try clear hK hE K E))|((with_reducible refine W_cond (fun h=>?_) (fun h=>?_))<;>(try(exfalso;assumption)))|(with_reducible refine call_pan can124 (ufail_S _ _ _ _ _) ?_)|(((with_reducible first|refine G_region fun K E hK hE=>?_|refine call_ret can125 (ugiven_S _ _ _ _ _) ?_))<;>(try simp(disch:=assumption) only[go_sem,seval, *]))))
  all_goals refine G_pan hQ ?_
  all_goals exact⟨_,Fg.refl _,by simp only[mustU,h0,Bool.false_eq_true,if_false];exact⟨rfl,L,rfl⟩⟩
theorem uroom_S (s:St)(r e:Nat)(L:List Sgn)(hv mst:Nat)(b:Bool):SCalls Tryz.prog 77 [.ptr r 0,.int .i64 hv,.int .i64 mst,.bool b] (Ru s r e L) (PW unitV s r e (roomU e L hv mst b)):=by
 refine G_enter Tryz.func77 rfl Tryz.ntmps77 rfl fun Q hQ hQe=>?_
 by_cases h:(mst:Int)≤(hv:Int)
 ·have h':mst≤hv:=by omega
  cases b with
  |true=>
   (repeat'(first|refine Ctl ?_|((with_reducible refine Kof.use hK ?_);clear hK hE K E)|((with_reducible refine Eof.use hE ?_);(try clear hK hE K E))|((with_reducible refine W_cond (fun h=>?_) (fun h=>?_))<;>(try(exfalso;assumption)))|(with_reducible refine call_pan can124 (ufail_S _ _ _ _ _) ?_)|(((with_reducible refine G_region fun K E hK hE=>?_))<;>(try simp(disch:=assumption) only[go_sem,seval, *]))))
   all_goals refine G_pan hQ ?_
   all_goals exact⟨_,Fg.refl _,by simp only[roomU,h',and_self,if_true];exact⟨rfl,_,rfl⟩⟩
  |false=>
   (repeat'(first|refine Ctl ?_|((with_reducible refine Kof.use hK ?_);clear hK hE K E)|((with_reducible refine W_cond (fun h=>?_) (fun h=>?_))<;>(try(exfalso;assumption)))|(((with_reducible refine G_region fun K E hK hE=>?_))<;>(try simp(disch:=assumption) only[go_sem,seval, *]))))
   all_goals(refine W_norm res77 hQ ?_)
   all_goals exact⟨_,_,Wk.refl _,Fg.refl _,by simp[roomU,PW,unitV]⟩
 ·have h':¬ mst≤hv:=by omega
  (repeat'(first|refine Ctl ?_|((with_reducible refine Kof.use hK ?_);clear hK hE K E)|((with_reducible refine W_cond (fun h=>?_) (fun h=>?_))<;>(try(exfalso;assumption)))|(((with_reducible refine G_region fun K E hK hE=>?_))<;>(try simp(disch:=assumption) only[go_sem,seval, *]))))
  all_goals(refine W_norm res77 hQ ?_)
  all_goals exact⟨_,_,Wk.refl _,Fg.refl _,by simp[roomU,PW,unitV,h']⟩
theorem ukind_S (s:St)(r e:Nat)(L:List Sgn)(k:Nat):SCalls Tryz.prog 126 [.ptr r 0,.int .i64 k] (Ru s r e L) (PW VV.str s r e (kindU e L k)):=by
 refine G_enter Tryz.func126 rfl Tryz.ntmps126 rfl fun Q hQ hQe=>?_
 cases L with
 |nil=>
  (repeat'(first|refine Ctl ?_|((with_reducible refine Kof.use hK ?_);clear hK hE K E)|((with_reducible refine Eof.use hE ?_);(try clear hK hE K E))|((with_reducible refine W_cond (fun h=>?_) (fun h=>?_))<;>(try(exfalso;assumption)))|(with_reducible refine call_pan can124 (ufail_S _ _ _ _ _) ?_)|(((with_reducible refine G_region fun K E hK hE=>?_))<;>(try simp(disch:=assumption) only[go_sem,seval,List.map_nil, *]))))
  all_goals refine G_pan hQ ?_
  all_goals exact⟨_,Fg.refl _,rfl,_,rfl⟩
 |cons x L=>
  have hl:(L.map sgnC).length=L.length:=by simp
  have hp:¬ ((L.length+1:Nat):Int)=0:=by omega
  have ha:=sgn_all2 x L
  by_cases hk:x.kind=k
  ·subst hk
   (repeat'(first|refine Ctl ?_|((with_reducible refine Kof.use hK ?_);clear hK hE K E)|((with_reducible refine W_cond (fun h=>?_) (fun h=>?_))<;>(try(exfalso;assumption)))|(((with_reducible refine G_region fun K E hK hE=>?_))<;>(try simp(disch:=assumption) only[go_sem,seval,List.map_cons,sgnC,hl,ha,List.drop_succ_cons,List.take_succ_cons,sgn_take,List.tail_cons,Nat.le_refl, *]))))
   all_goals(refine W_ret res126 hQ ?_)
   all_goals exact⟨_,_,Wk.refl _,Fg.refl _,by simp only[kindU,if_true];exact⟨rfl,rfl⟩⟩
  ·have hk':¬ (x.kind:Int)=(k:Int):=by omega
   (repeat'(first|refine Ctl ?_|((with_reducible refine Kof.use hK ?_);clear hK hE K E)|((with_reducible refine Eof.use hE ?_);(try clear hK hE K E))|((with_reducible refine W_cond (fun h=>?_) (fun h=>?_))<;>(try(exfalso;assumption)))|(with_reducible refine call_pan can124 (ufail_S _ _ _ _ _) ?_)|(((with_reducible refine G_region fun K E hK hE=>?_))<;>(try simp(disch:=assumption) only[go_sem,seval,List.map_cons,sgnC,hl,ha, *]))))
   all_goals refine G_pan hQ ?_
   all_goals exact⟨_,Fg.refl _,by simp only[kindU,if_neg hk];exact⟨rfl,_,rfl⟩⟩
def nameU (e:Nat)(L:List Sgn):PU (List UInt8):=kindU e L 1
theorem uname_S (s:St)(r e:Nat)(L:List Sgn):SCalls Tryz.prog 79 [.ptr r 0] (Ru s r e L) (PW VV.str s r e (nameU e L)):=by
 have h1:=ukind_S s r e L 1
 refine G_enter Tryz.func79 rfl Tryz.ntmps79 rfl fun Q hQ hQe=>?_
 (repeat'(first|refine Ctl ?_|((with_reducible refine Kof.use hK ?_);clear hK hE K E)|((with_reducible refine Eof.use hE ?_);(try clear hK hE K E))|((first|(with_reducible refine G_region fun K E hK hE=>?_)|((with_reducible refine call_pw can126 (h1) (fun a Lx h=>?_) (fun at_ er Lx h=>?_))))<;>(try simp(disch:=assumption) only[go_sem,seval, *]))))
 ·(refine W_ret res79 hQ ?_)
  exact⟨_,_,Wk.refl _,Fg.refl _,by simp only[nameU,h];exact⟨rfl,rfl⟩⟩
 ·refine G_pan hQ ?_
  exact⟨_,Fg.refl _,by simp only[nameU,h];exact⟨rfl,_,rfl⟩⟩
end Go.Proofs.YtgdbgfjhenobdaaGreatDoor
namespace Go.Proofs.YtgdbgfjhenobdaaGreatDoor
open Go.RowKit
attribute [local go_sem] Ru_at Ru_mk2
theorem RL_one' {G:Gh}{vs:Array Value}{x:VV}(h:RL G vs [x]):∃a,vs=#[a]∧R G a x:=by
 obtain⟨hs,hr⟩:=h
 obtain⟨l⟩:=vs
 match l,hs,hr with
 |[a],_,hr=>exact⟨a,rfl,hr 0 a x rfl rfl⟩
theorem Atoi_S (t:List UInt8)(n:Int)(hl:t.length≤18)(h:Lib.atoi t=some n)(s:St):SRet Tryz.prog 48 [.str t] s (.tup [.int .i64 n,.raw .nilIface]) s:=by
 intro w0 G w vs hS hA
 obtain⟨a,rfl,ha⟩:=RL_one' hA
 cases ha with
 |str a=>
  refine Calls.mono (Tryz.strconv_Atoi ⟨a⟩ n (by simpa [ByteArray.size]using hl) h w) fun e w' h=>?_
  obtain⟨rfl,t,rfl⟩:=h
  refine⟨G,s,.ret (.tup [.int .i64 n,.raw .nilIface]),Gh.le.refl G,hS.world ⟨rfl,rfl,rfl,by rw[Lib.bytesWorld_size];omega,fun j hj=>Lib.bytesWorld_at_old _ _ _ j hj⟩,?_,rfl,rfl⟩
  refine R.tup _ _ rfl fun j v y hv hy=>?_
  match j with
  |0=>simp at hv hy;subst hv;subst hy;exact .int _ _
  |1=>simp at hv hy;subst hv;subst hy;exact .raw _
  |j+2=>simp at hy
def ixI (n:Int):List Int→Int
 |[]=>-1
 |x::l=>if n=x then 0 else(if ixI n l<0 then -1 else ixI n l+1)
def intsV (l:List Int):List (List VV):=l.map fun n=>[.int .i64 n]
theorem ixI_none {n:Int}:∀{l:List Int},(∀x,x∈l→¬ n=x)→ixI n l=-1
 |[],_=>rfl
 |x::l,h=>by
  simp only[ixI]
  rw[if_neg (h x (by simp)),ixI_none fun y hy=>h y (by simp[hy])]
  rfl
theorem ixI_at {n:Int}:∀{l:List Int} {i:Nat},(∀x,x∈l.take i→¬ n=x)→l[i]?=some n→ixI n l=i
 |[],i,_,h=>by simp at h
 |x::l,0,_,h=>by simp at h;subst h;simp[ixI]
 |x::l,i+1,ha,h=>by
  have h1:¬ n=x:=ha x (by simp)
  have h2:=ixI_at (l:=l) (i:=i) (fun z hz=>ha z (by simp[hz])) (by simpa using h)
  simp only[ixI]
  rw[if_neg h1,h2,if_neg (by omega)]
  omega
theorem ixI_any (n:Int):∀l:List Int,decide (0≤ixI n l)=l.contains n
 |[]=>by simp[ixI]
 |x::l=>by
  have:=ixI_any n l
  by_cases hx:n=x
  ·subst hx;simp[ixI]
  ·simp only[ixI,if_neg hx,List.contains_cons,beq_eq_false_iff_ne.2 hx,Bool.false_or]
   rw[← this]
   split<;>simp<;>omega
theorem ixI_S (l:List Int)(o:Own)(n:Int)(hn:l.length≤9223372036854775000)(s:St):SRet Tryz.prog 151 [.lst (intsV l) o,.int .i64 n] s (.int .i64 (ixI n l)) s:=by
 have hsl:(intsV l).length=l.length:=by simp[intsV]
 refine G_enter Tryz.func151 rfl Tryz.ntmps151 rfl fun Q hQ hQe=>?_
 (repeat'(first|refine Ctl ?_|((with_reducible refine Kof.use hK ?_);clear hK hE K E)|(((with_reducible refine G_region fun K E hK hE=>?_))<;>(try simp(disch:=omega) only[go_sem,seval,hsl, *]))))
 refine L_loop (fun m env s'=>∃(i:Nat),i≤l.length∧m+i=l.length∧(∀x,x∈l.take i→¬ n=x)∧s'=s∧env 0=.lst (intsV l) o∧env 1=.int .i64 n∧env 7=.int .i64 l.length∧env 8=.int .i64 i) l.length
  ⟨0,by omega,by omega,by simp,rfl,z_sl,z_sl,z_sl,z_sl⟩ ?_
 rintro m env s' ⟨i,hi,hm,hall,rfl,e0,e1,e7,e8⟩
 by_cases hlt:i<l.length
 ·obtain⟨x,hx⟩:∃x,l[i]?=some x:=⟨_,List.getElem?_eq_getElem hlt⟩
  have hsx:(intsV l)[i]?=some [.int .i64 x]:=by simp[intsV,hx]
  have htake:l.take (i+1)=l.take i++[x]:=by rw[List.take_add_one,hx];rfl
  by_cases hnx:n=x
  ·subst hnx
   have hres:=ixI_at hall hx
   clear hall htake hx
   (repeat'(first|refine Ctl ?_|((with_reducible refine Kof.use hK ?_);clear hK hE K E)|((with_reducible refine W_cond (fun h=>?_) (fun h=>?_))<;>(try(exfalso;assumption)))|(((with_reducible refine G_region fun K E hK hE=>?_))<;>(try simp(disch:=omega) only[go_sem,seval,hsl,hsx, *]))))
   all_goals(refine W_ret res151 hQ ?_)
   all_goals(refine⟨_,_,Wk.of_eq ?_,?_,rfl,rfl⟩)
   all_goals first|(exact z_fg)|(rw[hres];done)
  ·have hall2:∀y,y∈l.take (i+1)→¬ n=y:=fun y hy=>by
    rw[htake]at hy
    rcases List.mem_append.1 hy with hy|hy
    ·exact hall y hy
    ·rw[List.mem_singleton]at hy;subst hy;exact hnx
   clear hall htake hx
   (repeat'(first|refine Ctl ?_|((with_reducible refine Kof.use hK ?_);clear hK hE K E)|((with_reducible refine W_cond (fun h=>?_) (fun h=>?_))<;>(try(exfalso;assumption)))|(((with_reducible refine G_region fun K E hK hE=>?_))<;>(try simp(disch:=omega) only[go_sem,seval,hsl,hsx, *]))))
   all_goals exact⟨m - 1,by omega,i+1,by omega,by omega,hall2,rfl,z_sl,z_sl,z_sl,z_sl⟩
 ·have hres:ixI n l=-1:=ixI_none (by
   have:l.take i=l:=List.take_of_length_le (by omega)
   rw[this]at hall
   exact hall)
  clear hall
  (repeat'(first|refine Ctl ?_|((with_reducible refine Kof.use hK ?_);clear hK hE K E)|((with_reducible refine W_cond (fun h=>?_) (fun h=>?_))<;>(try(exfalso;assumption)))|(((with_reducible refine G_region fun K E hK hE=>?_))<;>(try simp(disch:=omega) only[go_sem,seval,hsl, *]))))
  all_goals(refine W_ret res151 hQ ?_)
  all_goals(refine⟨_,_,Wk.of_eq ?_,?_,rfl,rfl⟩)
  all_goals first|(exact z_fg)|(rw[hres];done)
theorem contI_S (l:List Int)(o:Own)(n:Int)(hn:l.length≤9223372036854775000)(s:St):SRet Tryz.prog 127 [.lst (intsV l) o,.int .i64 n] s (.bool (l.contains n)) s:=by
 have h1:=ixI_S l o n hn
 have h2:=ixI_any n l
 refine G_enter Tryz.func127 rfl Tryz.ntmps127 rfl fun Q hQ hQe=>?_
 (repeat'(first|refine Ctl ?_|((with_reducible refine Kof.use hK ?_);clear hK hE K E)|(((with_reducible first|refine G_region fun K E hK hE=>?_|refine call_ret can151 (h1 _) ?_))<;>(try simp(disch:=omega) only[go_sem,seval, *]))))
 all_goals(refine W_ret res127 hQ ?_)
 all_goals(refine⟨_,_,Wk.of_eq ?_,?_,rfl,rfl⟩)
 all_goals(exact z_fg)
def nextB (ks:List Int):List Sgn→Bool
 |[]=>false
 |x::_=>ks.contains (x.kind:Int)
theorem unext_S (s:St)(r e:Nat)(L:List Sgn)(ks:List Int)(o:Own)(hk:ks.length≤1000):SRet Tryz.prog 83 [.ptr r 0,.lst (intsV ks) o] (Ru s r e L) (.bool (nextB ks L)) (Ru s r e L):=by
 have hk2:ks.length≤9223372036854775000:=by omega
 refine G_enter Tryz.func83 rfl Tryz.ntmps83 rfl fun Q hQ hQe=>?_
 cases L with
 |nil=>
  (repeat'(first|refine Ctl ?_|((with_reducible refine Kof.use hK ?_);clear hK hE K E)|(((with_reducible refine G_region fun K E hK hE=>?_))<;>(try simp(disch:=omega) only[go_sem,seval,List.map_nil, *]))))
  all_goals(refine W_ret res83 hQ ?_)
  all_goals(refine⟨_,_,Wk.of_eq ?_,?_,rfl,rfl⟩)
  all_goals first|(exact z_fg)|rfl
 |cons x L=>
  have hl:(L.map sgnC).length=L.length:=by simp
  (repeat'(first|refine Ctl ?_|((with_reducible refine Kof.use hK ?_);clear hK hE K E)|((first|(with_reducible first|refine G_region fun K E hK hE=>?_|refine call_ret can127 (contI_S _ _ _ (by assumption) _) ?_)|((with_reducible refine W_gd (fun h=>?_) (fun h=>?_))<;>(try(exfalso;omega))))<;>(try simp(disch:=omega) only[go_sem,seval,List.map_cons,sgnC,hl, *]))))
  all_goals(refine W_ret res83 hQ ?_)
  all_goals(refine⟨_,_,Wk.of_eq ?_,?_,rfl,rfl⟩)
  all_goals first|(exact z_fg)|rfl
def GoodU (L:List Sgn):Prop:=∀x,x∈L→x.kind=2→∃n:Nat,Lib.atoi x.text=some (n:Int)∧x.text.length≤18
def numN (t:List UInt8):Nat:=((Lib.atoi t).getD 0).toNat
def numU (e:Nat)(L:List Sgn):PU Nat:=bu (kindU e L 2) fun t L=>.ok (numN t,L)
theorem unum_S (s:St)(r e:Nat)(L:List Sgn)(hG:GoodU L):SCalls Tryz.prog 80 [.ptr r 0] (Ru s r e L) (PW (fun n=>.int .i64 (n:Nat)) s r e (numU e L)):=by
  have h1:=ukind_S s r e L 2
  have hg:∀t L',kindU e L 2=.ok (t,L')→∃n:Nat,Lib.atoi t=some (n:Int)∧t.length≤18:=fun t L' h=>by
    cases L with
    |nil=>cases h
    |cons x L=>
      simp only[kindU]at h
      split at h
      · rename_i hk;injection h with h;injection h with h2 h3;subst h2;exact hG x (by simp) hk
      · cases h
  have HG:=Lib.hid hg
  clear hg
  refine G_enter Tryz.func80 rfl Tryz.ntmps80 rfl fun Q hQ hQe=>?_
  cases hx:kindU e L 2 with
  |error q=>
    rw[hx]at h1
    (repeat'(first|refine Ctl ?_|((with_reducible refine Kof.use hK ?_);clear hK hE K E)|((with_reducible refine Eof.use hE ?_);(try clear hK hE K E))|((first|(with_reducible refine G_region fun K E hK hE=>?_)|((with_reducible refine call_pw can126 (h1) (fun a Lx h=>?_) (fun at_ er Lx h=>?_))))<;>(try simp(disch:=omega) only[go_sem,seval, *]))))
    all_goals first
      |(cases h;done)
      | (refine G_pan hQ ?_
         cases h
         exact⟨_,Fg.refl _,by simp only[numU,hx];exact⟨rfl,_,rfl⟩⟩)
  |ok q=>
    obtain⟨t,L'⟩:=q
    obtain⟨n,hn1,hn2⟩:=HG t L' hx
    rw[hx]at h1
    have h3:=Atoi_S t (n:Int) hn2 hn1
    have h1r:=h1.ret
    have hv:numN t=n:=by simp[numN,hn1]
    clear h1
    (repeat'(first|refine Ctl ?_|((with_reducible refine Kof.use hK ?_);clear hK hE K E)|(((with_reducible first|refine G_region fun K E hK hE=>?_|refine call_ret can126 (h1r) ?_|refine call_ret can48 (h3 _) ?_))<;>(try simp(disch:=omega) only[go_sem,seval, *]))))
    all_goals(refine W_ret res80 hQ ?_)
    all_goals exact⟨_,_,Wk.refl _,Fg.refl _,by simp only[numU,hx,bu_ok,hv];exact⟨rfl,rfl⟩⟩
structure Trm where
 var:Bool
 nm:List UInt8
 n:Int
def trmC (t:Trm):List VV:=[.bool t.var,.str t.nm,.int .i64 t.n]
def isNum:List Sgn→Bool
 |[]=>false
 |x::_=>decide (x.kind=2)
def termU (e:Nat)(L:List Sgn):PU Trm:=if isNum L=true then bu (numU e L) fun n L=>.ok (⟨false,[],(n:Int)⟩,L)else bu (nameU e L) fun t L=>.ok (⟨true,t,0⟩,L)
theorem Ru_free {s:St}{r e b:Nat}{L:List Sgn}:((Ru s r e L) b=.free)=(¬ b=r∧¬ r=b∧s b=.free):=set_free_o
theorem Ru_set {s:St}{r e b:Nat}{L:List Sgn}{c:Cell}(h:¬ b=r):(Ru s r e L).set b c=Ru (s.set b c) r e L:=by
 funext x
 simp only[Ru,St.set]
 by_cases h1:x=b
 ·subst h1;simp[h]
 ·simp[h1]
attribute [local go_sem] Ru_free Ru_set Ru_gt
theorem uterm_S (s:St)(r e:Nat)(L:List Sgn)(hG:GoodU L):SCalls Tryz.prog 153 [.ptr r 0] (Ru s r e L) (PW (fun t=>.agg (trmC t)) s r e (termU e L)):=by
  have h1:=fun s=>unum_S s r e L hG
  have h2:=fun s=>uname_S s r e L
  have hnum:∀x L',L=x::L'→isNum L=decide ((x.kind:Int)=2):=fun x L' h=>by subst h;simp only[isNum];by_cases h:x.kind=2<;>simp[h]<;>omega
  have HN:=Lib.hid hnum
  clear hnum hG
  refine G_enter Tryz.func153 rfl Tryz.ntmps153 rfl fun Q hQ hQe=>?_
  cases hi:isNum L with
  |true=>
    cases L with
    |nil=>cases hi
    |cons x L=>
      have hx:((x.kind:Int)=2)=True:=by have:=HN x L rfl;rw[hi]at this;exact eq_true (of_decide_eq_true this.symm)
      have hl:(L.map sgnC).length=L.length:=by simp
      cases hr:numU e (x::L)with
      |error q=>
        have HI:=Lib.hid hi
        have HR:=Lib.hid hr
        rw[hr]at h1
        clear hi hr
        (repeat'(first|refine Ctl ?_|((with_reducible refine Kof.use hK ?_);clear hK hE K E)|((with_reducible refine Eof.use hE ?_);(try clear hK hE K E))|((with_reducible refine W_cond (fun h=>?_) (fun h=>?_))<;>(try(exfalso;assumption)))|((first|(with_reducible refine G_region fun K E hK hE=>?_)|((with_reducible refine call_pw can80 (h1 _) (fun a Lx h=>?_) (fun at_ er Lx h=>?_)))|((with_reducible refine W_fresh (fun b hb=>?_));(repeat(obtain⟨_,hb⟩:=hb)))|((with_reducible refine W_gd (fun h=>?_) (fun h=>?_))<;>(try(exfalso;omega))))<;>(try simp(disch:=first|assumption|omega) only[go_sem,seval,List.map_cons,sgnC,hl, *]))))
        all_goals first
          |(cases h;done)
          | (refine G_pan hQ ?_
             cases h
             exact⟨Ru s r e _,z_fg,by simp only[termU,show isNum (x::L)=true from HI,if_true,show numU e (x::L)=_ from HR];exact⟨rfl,_,rfl⟩⟩)
      |ok q=>
        obtain⟨n,L'⟩:=q
        have HI:=Lib.hid hi
        have HR:=Lib.hid hr
        rw[hr]at h1
        have h1r:=fun s=>(h1 s).ret
        clear hi hr h1
        (repeat'(first|refine Ctl ?_|((with_reducible refine Kof.use hK ?_);clear hK hE K E)|((with_reducible refine W_cond (fun h=>?_) (fun h=>?_))<;>(try(exfalso;assumption)))|((first|(with_reducible first|refine G_region fun K E hK hE=>?_|refine call_ret can80 (h1r _) ?_)|((with_reducible refine W_fresh (fun b hb=>?_));(repeat(obtain⟨_,hb⟩:=hb)))|((with_reducible refine W_gd (fun h=>?_) (fun h=>?_))<;>(try(exfalso;omega))))<;>(try simp(disch:=first|assumption|omega) only[go_sem,seval,List.map_cons,sgnC,hl, *]))))
        all_goals(refine W_ret res153 hQ ?_)
        all_goals exact⟨_,Ru s r e _,Wk.refl _,z_fg,by simp only[termU,show isNum (x::L)=true from HI,if_true,show numU e (x::L)=_ from HR,bu_ok];exact⟨rfl,rfl⟩⟩
  |false=>
    have hc:∀x L',L=x::L'→¬ (x.kind:Int)=2:=fun x L' h=>by have:=HN x L' h;rw[hi]at this;exact of_decide_eq_false this.symm
    have HC:=Lib.hid hc
    have HI:=Lib.hid hi
    clear hc hi
    cases hr:nameU e L with
    |error q=>
      have HR:=Lib.hid hr
      rw[hr]at h2
      clear hr
      cases L with
      |nil=>
        (repeat'(first|refine Ctl ?_|((with_reducible refine Kof.use hK ?_);clear hK hE K E)|((with_reducible refine Eof.use hE ?_);(try clear hK hE K E))|((with_reducible refine W_cond (fun h=>?_) (fun h=>?_))<;>(try(exfalso;assumption)))|((first|(with_reducible refine G_region fun K E hK hE=>?_)|((with_reducible refine call_pw can79 (h2 _) (fun a Lx h=>?_) (fun at_ er Lx h=>?_)))|((with_reducible refine W_fresh (fun b hb=>?_));(repeat(obtain⟨_,hb⟩:=hb))))<;>(try simp(disch:=first|assumption|omega) only[go_sem,seval,List.map_nil, *]))))
        all_goals first
          |(cases h;done)
          | (refine G_pan hQ ?_
             cases h
             exact⟨Ru s r e _,z_fg,by simp only[termU,show isNum []=false from HI,Bool.false_eq_true,if_false,show nameU e []=_ from HR];exact⟨rfl,_,rfl⟩⟩)
      |cons x L=>
        have hx:=HC x L rfl
        have hl:(L.map sgnC).length=L.length:=by simp
        (repeat'(first|refine Ctl ?_|((with_reducible refine Kof.use hK ?_);clear hK hE K E)|((with_reducible refine Eof.use hE ?_);(try clear hK hE K E))|((with_reducible refine W_cond (fun h=>?_) (fun h=>?_))<;>(try(exfalso;assumption)))|((first|(with_reducible refine G_region fun K E hK hE=>?_)|((with_reducible refine call_pw can79 (h2 _) (fun a Lx h=>?_) (fun at_ er Lx h=>?_)))|((with_reducible refine W_fresh (fun b hb=>?_));(repeat(obtain⟨_,hb⟩:=hb)))|((with_reducible refine W_gd (fun h=>?_) (fun h=>?_))<;>(try(exfalso;omega))))<;>(try simp(disch:=first|assumption|omega) only[go_sem,seval,List.map_cons,sgnC,hl, *]))))
        all_goals first
          |(cases h;done)
          | (refine G_pan hQ ?_
             cases h
             exact⟨Ru s r e _,z_fg,by simp only[termU,show isNum (x::L)=false from HI,Bool.false_eq_true,if_false,show nameU e (x::L)=_ from HR];exact⟨rfl,_,rfl⟩⟩)
    |ok q=>
      obtain⟨t,L'⟩:=q
      have HR:=Lib.hid hr
      rw[hr]at h2
      have h2r:=fun s=>(h2 s).ret
      clear hr h2
      cases L with
      |nil=>exact absurd (show nameU e []=_ from HR) (by simp[nameU,kindU])
      |cons x L=>
        have hx:=HC x L rfl
        have hl:(L.map sgnC).length=L.length:=by simp
        (repeat'(first|refine Ctl ?_|((with_reducible refine Kof.use hK ?_);clear hK hE K E)|((with_reducible refine W_cond (fun h=>?_) (fun h=>?_))<;>(try(exfalso;assumption)))|((first|(with_reducible first|refine G_region fun K E hK hE=>?_|refine call_ret can79 (h2r _) ?_)|((with_reducible refine W_fresh (fun b hb=>?_));(repeat(obtain⟨_,hb⟩:=hb)))|((with_reducible refine W_gd (fun h=>?_) (fun h=>?_))<;>(try(exfalso;omega))))<;>(try simp(disch:=first|assumption|omega) only[go_sem,seval,List.map_cons,sgnC,hl, *]))))
        all_goals(refine W_ret res153 hQ ?_)
        all_goals exact⟨_,Ru s r e _,Wk.refl _,z_fg,by simp only[termU,show isNum (x::L)=false from HI,Bool.false_eq_true,if_false,show nameU e (x::L)=_ from HR,bu_ok];exact⟨rfl,rfl⟩⟩
end Go.Proofs.YtgdbgfjhenobdaaGreatDoor
namespace Go.Proofs.YtgdbgfjhenobdaaGreatDoor
open Go.RowKit
attribute [local go_sem] Ru_at Ru_mk2 Ru_free Ru_set Ru_gt
def listGo {α:Type}(e:Nat)(one:List Sgn→PU α)(ks:List Int):Nat→List α→List Sgn→PU (List α)
 |0,_,_=>.error (0,0)
 |f+1,out,L=>bu (roomU e L out.length 8 (nextB ks L)) fun _ L=>bu (one L) fun x L=>if isT L 0 [44]=true then listGo e one ks f (out++[x]) L.tail else .ok (out++[x],L)
def listU {α:Type}(e:Nat)(one:List Sgn→PU α)(ks:List Int)(L:List Sgn):PU (List α):=
 bu (mustU e L [40]) fun _ L=>bu (listGo e one ks (L.length+1) [] L) fun xs L=>bu (mustU e L [41]) fun _ L=>.ok (xs,L)
theorem mustU_inv {e:Nat}{L L':List Sgn}{t:List UInt8}{u:Unit}(h:mustU e L t=.ok (u,L')):L'=L.tail∧isT L 0 t=true∧L'.length<L.length:=by
 unfold mustU at h
 split at h
 ·rename_i hi
  injection h with h;injection h with _ h;subst h
  refine⟨rfl,hi,?_⟩
  cases L with
  |nil=>simp[isT]at hi
  |cons x L=>simp
 ·cases h
theorem roomU_inv {e hv mst:Nat}{L L':List Sgn}{b:Bool}{u:Unit}(h:roomU e L hv mst b=.ok (u,L')):L'=L:=by
 unfold roomU at h
 split at h
 ·cases h
 ·injection h with h;injection h with _ h;exact h.symm
theorem GoodU.tail {L:List Sgn}(h:GoodU L):GoodU L.tail:=fun x hx=>h x (List.mem_of_mem_tail hx)
theorem GoodU.sub {L L':List Sgn}(h:GoodU L)(hs:∀y,y∈L'→y∈L):GoodU L':=fun x hx=>h x (hs x hx)
set_option maxHeartbeats 2000000 in
theorem ulist_S {α:Type}(M:List α→Own→St)(Cn:List α→Own→Prop)(s:St)(r e:Nat)(one:List Sgn→PU α)(fc:FuncId)(caps:List VV)(ks:List Int)(ow:Own)(hks:ks.length≤1000)(hcan:Callable Tryz.prog fc)
    (hone:∀ts o L,Cn ts o→GoodU L→ts.length≤100000→SCalls Tryz.prog fc caps (Ru (M ts o) r e L) (PQ (fun _=>.tup []) (fun x L o'=>Ru (M (ts++[x]) o') r e L) (fun x _ o'=>Cn (ts++[x]) o') (fun L=>Ru s r e L) (one L)))
    (hsub:∀L x L',one L=.ok (x,L')→L'.length<L.length∧∀y,y∈L'→y∈L) (hfg:∀ts o,Cn ts o→Fg (M ts o) s)
    (o:Own) (hC:Cn [] o) (L:List Sgn) (hG:GoodU L) (hL:L.length≤50000) :
    SCalls Tryz.prog 81 [.ptr r 0,.fn fc caps,.lst (intsV ks) ow] (Ru (M [] o) r e L) (PQ (fun _=>.tup []) (fun xs L o'=>Ru (M xs o') r e L) (fun xs _ o'=>Cn xs o') (fun L=>Ru s r e L) (listU e one ks L)):=by
  have HS:=Lib.hid hsub
  have HF:=Lib.hid hfg
  clear hsub hfg
  generalize hres:listU e one ks L=res
  refine G_enter Tryz.func81 rfl Tryz.ntmps81 rfl fun Q hQ hQe=>?_
  have h1:=fun s=>umust_S s r e L [40]
  unfold listU at hres
  cases hm:mustU e L [40]with
  |error q=>
    rw[hm]at h1 hres
    (repeat'(first|refine Ctl ?_|((with_reducible refine Kof.use hK ?_);clear hK hE K E)|((with_reducible refine Eof.use hE ?_);(try clear hK hE K E))|((first|(with_reducible refine G_region fun K E hK hE=>?_)|((with_reducible refine call_pw can78 (h1 _) (fun a Lx h=>?_) (fun at_ er Lx h=>?_))))<;>(try simp(disch:=omega) only[go_sem,seval, *]))))
    all_goals first
      |(cases h;done)
      | (refine G_pan hQ ?_
         cases h
         exact⟨_,(HF _ _ hC).ru,by rw[← hres];exact⟨rfl,_,rfl⟩⟩)
  |ok q=>
    obtain⟨u,L1⟩:=q
    obtain⟨hL1,_,hlen⟩:=mustU_inv hm
    have hG1:GoodU L1:=by rw[hL1];exact hG.tail
    rw[hm]at h1 hres
    rw[bu_ok]at hres
    have h1r:=fun s=>(h1 s).ret
    have HR:=Lib.hid hres
    clear h1 hm hL1 hres
    (repeat'(first|refine Ctl ?_|((with_reducible refine Kof.use hK ?_);clear hK hE K E)|(((with_reducible first|refine G_region fun K E hK hE=>?_|refine call_ret can78 (h1r _) ?_))<;>(try simp(disch:=omega) only[go_sem,seval, *]))))
    refine L_loop (fun m env s'=>∃(ts:List α) (o':Own) (L2:List Sgn) (okb:Bool),Cn ts o'∧GoodU L2∧L2.length<m∧ts.length+L2.length≤50000∧s'=Ru (M ts o') r e L2 ∧
      res=bu (if okb=true then listGo e one ks m ts L2 else .ok (ts,L2)) (fun xs L=>bu (mustU e L [41]) fun _ L=>.ok (xs,L))∧env 0=.ptr r 0∧env 1=.fn fc caps∧env 2=.lst (intsV ks) ow∧env 6=.int .i64 ts.length∧env 7=.bool okb) (L1.length+1)
      ⟨[],o,L1,true,hC,hG1,by omega,by simp;omega,rfl,HR.symm,z_sl,z_sl,z_sl,z_sl,z_sl⟩ ?_
    rintro m env s' ⟨ts,o',L2,okb,hC2,hG2,hm,hlen2,rfl,hgo,e0,e1,e2,e6,e7⟩
    clear HR h1r
    cases okb with
    |false=>
      rw[if_neg (by decide),bu_ok]at hgo
      have h3:=umust_S (M ts o') r e L2 [41]
      cases hm2:mustU e L2 [41]with
      |error q=>
        rw[hm2]at h3 hgo
        have HG:=Lib.hid hgo
        clear hgo
        (repeat'(first|refine Ctl ?_|((with_reducible refine Kof.use hK ?_);clear hK hE K E)|((with_reducible refine Eof.use hE ?_);(try clear hK hE K E))|((with_reducible refine W_cond (fun h=>?_) (fun h=>?_))<;>(try(exfalso;assumption)))|((first|(with_reducible refine G_region fun K E hK hE=>?_)|((with_reducible refine call_pw can78 (h3) (fun a Lx h=>?_) (fun at_ er Lx h=>?_))))<;>(try simp(disch:=omega) only[go_sem,seval, *]))))
        all_goals first
          |(cases h;done)
          | (refine G_pan hQ ?_
             cases h
             exact⟨_,(HF _ _ hC2).ru,by rw[show res=_ from HG];exact⟨rfl,_,rfl⟩⟩)
      |ok q=>
        obtain⟨u,L3⟩:=q
        rw[hm2]at h3 hgo
        have h3r:=h3.ret
        have HG:=Lib.hid hgo
        clear hgo h3
        (repeat'(first|refine Ctl ?_|((with_reducible refine Kof.use hK ?_);clear hK hE K E)|((with_reducible refine W_cond (fun h=>?_) (fun h=>?_))<;>(try(exfalso;assumption)))|(((with_reducible first|refine G_region fun K E hK hE=>?_|refine call_ret can78 (h3r) ?_))<;>(try simp(disch:=omega) only[go_sem,seval, *]))))
        all_goals(refine W_norm res81 hQ ?_)
        all_goals exact⟨_,_,Wk.refl _,Fg.refl _,by rw[show res=_ from HG];exact⟨rfl,_,rfl,hC2⟩⟩
    |true=>
      obtain⟨g,rfl⟩:∃g,m=g+1:=⟨m - 1,by omega⟩
      rw[if_pos rfl,listGo,bu_assoc]at hgo
      have h3:=uroom_S (M ts o') r e L2 ts.length 8 (nextB ks L2)
      cases hr2:roomU e L2 ts.length 8 (nextB ks L2)with
      |error q=>
        rw[hr2]at h3 hgo
        have HG:=Lib.hid hgo
        clear hgo
        (repeat'(first|refine Ctl ?_|((with_reducible refine Kof.use hK ?_);clear hK hE K E)|((with_reducible refine Eof.use hE ?_);(try clear hK hE K E))|((with_reducible refine W_cond (fun h=>?_) (fun h=>?_))<;>(try(exfalso;assumption)))|((first|(with_reducible first|refine G_region fun K E hK hE=>?_|refine call_ret can83 (unext_S _ _ _ _ _ _ hks) ?_)|((with_reducible refine call_pw can77 (h3) (fun a Lx h=>?_) (fun at_ er Lx h=>?_))))<;>(try simp(disch:=omega) only[go_sem,seval, *]))))
        all_goals first
          |(cases h;done)
          | (refine G_pan hQ ?_
             cases h
             exact⟨_,(HF _ _ hC2).ru,by rw[show res=_ from HG];exact⟨rfl,_,rfl⟩⟩)
      |ok q=>
        obtain⟨u,L3⟩:=q
        obtain rfl:=roomU_inv hr2
        rw[hr2]at h3 hgo
        rw[bu_ok,bu_assoc]at hgo
        have h3r:=h3.ret
        have h4:=hone ts o' L3 hC2 hG2 (by omega)
        have hsub:=fun x L'=>HS L3 x L'
        have HSS:=Lib.hid hsub
        have HG:=Lib.hid hgo
        clear hgo h3 hr2 hsub
        (repeat'(first|refine Ctl ?_|((with_reducible refine Kof.use hK ?_);clear hK hE K E)|((with_reducible refine Eof.use hE ?_);(try clear hK hE K E))|((with_reducible refine W_cond (fun h=>?_) (fun h=>?_))<;>(try(exfalso;assumption)))|(((with_reducible first|refine G_region fun K E hK hE=>?_|refine call_ret can77 (h3r) ?_|refine call_ret can83 (unext_S _ _ _ _ _ _ hks) ?_|refine call_ret can125 (ugiven_S _ _ _ _ _) ?_))<;>(try simp(disch:=omega) only[go_sem,seval, *]))|((with_reducible refine call_pq hcan h4 (fun a Lx ix hx hc=>?_) (fun at_ er Lx hx=>?_))<;>(try simp(disch:=omega) only[go_sem,seval, *]))))
        all_goals first
          | (refine G_pan hQ ?_
             rw[hx,bu_err]at HG
             exact⟨_,Fg.refl _,by rw[show res=_ from HG];exact⟨rfl,_,rfl⟩⟩)
          | (rw [hx, bu_ok] at HG
             obtain⟨hs1,hs2⟩:=HSS a Lx hx
             exact⟨g,by omega,ts++[a],ix,if isT Lx 0 [44]=true then Lx.tail else Lx,isT Lx 0 [44],hc,by(split;exact(hG2.sub hs2).tail;exact hG2.sub hs2),by(split<;>(try simp only[List.length_tail])<;>omega),by(simp only[List.length_append,List.length_cons,List.length_nil];split<;>(try simp only[List.length_tail])<;>omega),rfl,by(rw[show res=_ from HG];cases isT Lx 0 [44]<;>rfl),z_sl,z_sl,z_sl,by(rw[show ((ts++[a]).length:Int)=(ts.length:Int)+1 by simp];((try simp(disch:=first|assumption|omega) only[go_sem,seval, *])<;>first|rfl|omega)),z_sl⟩)
theorem Ru_dis {s:St}{r e:Nat}{L:List Sgn}{o:Own}(h:NotOwn o r):(Ru s r e L).disown o=Ru (s.disown o) r e L:=disown_set h
theorem Ru_own {s:St}{r e T sz k:Nat}{L:List Sgn}{o:Own}(h:NotOwn o r):(Ru s r e L).own o T sz k=Ru (s.own o T sz k) r e L:=own_push h
theorem Ru_ok {s:St}{r e k:Nat}{L:List Sgn}{o:Own}:OwnOk (Ru s r e L) o k=(NotOwn o r∧OwnOk s o k):=ownok_o
theorem Ru_ownd {s:St}{r e T sz k:Nat}{L:List Sgn}{o:Own}(h:NotOwn o r):Owned (Ru s r e L) o T sz k=Owned s o T sz k:=owned_set h
attribute [local go_sem] Ru_dis Ru_own Ru_ok Ru_ownd
structure Atm where
 not:Bool
 rel:List UInt8
 ts:List Trm
def atmC (a:Atm):List VV:=[.bool a.not,.str a.rel,.lst (a.ts.map trmC) .no]
def atomU (e:Nat)(L:List Sgn)(nt:Bool):PU Atm:=bu (nameU e L) fun rel L=>bu (listU e (termU e) [1,2] L) fun ts L=>.ok (⟨nt,rel,ts⟩,L)
theorem nameU_sub {e:Nat}{L L':List Sgn}{x:List UInt8}{k:Nat}(h:kindU e L k=.ok (x,L')):L'.length<L.length∧∀y,y∈L'→y∈L:=by
 cases L with
 |nil=>cases h
 |cons y L=>
  simp only[kindU]at h
  split at h
  ·injection h with h;injection h with _ h;subst h
   exact⟨by simp,fun z hz=>by simp[hz]⟩
  ·cases h
theorem termU_sub {e:Nat}{L L':List Sgn}{x:Trm}(h:termU e L=.ok (x,L')):L'.length<L.length∧∀y,y∈L'→y∈L:=by
 unfold termU at h
 split at h
 ·unfold numU at h
  cases h1:kindU e L 2 with
  |error q=>rw[h1]at h;cases h
  |ok q=>obtain⟨t,L1⟩:=q;rw[h1]at h;simp only[bu_ok]at h;injection h with h;injection h with _ h;subst h;exact nameU_sub h1
 ·cases h1:nameU e L with
  |error q=>rw[h1]at h;cases h
  |ok q=>obtain⟨t,L1⟩:=q;rw[h1]at h;simp only[bu_ok]at h;injection h with h;injection h with _ h;subst h;exact nameU_sub h1
abbrev Am (s:St)(b:Nat)(nt:Bool)(rel:List UInt8)(ts:List Trm)(o:Own):St:=(s.own o 171 3 ts.length).set b (.obj 71 [.bool nt,.str rel,.lst (ts.map trmC) o])
def AmC (s:St)(b r b2:Nat)(ts:List Trm)(o:Own):Prop:=OwnOk s o ts.length∧NotOwn o b∧NotOwn o r∧NotOwn o b2
theorem uone_S (s:St)(r e b b2:Nat)(nt:Bool)(rel:List UInt8)(hb:s b=.free)(n1:¬ b=r)(n2:¬ b2=b)(n3:¬ b2=r)(h2:s b2=.obj 111 [.ptr r 0])
    (ts:List Trm) (o:Own) (L:List Sgn) (hC:AmC s b r b2 ts o) (hG:GoodU L) (hl:ts.length≤100000) :
    SCalls Tryz.prog 152 [.ptr b 0,.ptr b2 0] (Ru (Am s b nt rel ts o) r e L)
      (PQ (fun _=>.tup []) (fun x L o'=>Ru (Am s b nt rel (ts++[x]) o') r e L) (fun x _ o'=>AmC s b r b2 (ts++[x]) o') (fun L=>Ru s r e L) (termU e L)):=by
  obtain⟨hO,q1,q2,q3⟩:=hC
  have h1:=fun s=>uterm_S s r e L hG
  have hm:(ts.map trmC).length=ts.length:=by simp
  have hfg:Fg (Am s b nt rel ts o) s:=(Fg.of_set _ (by rw[own_rd q1];exact hb)).trans (Fg.own hO)
  have HF:=Lib.hid hfg
  clear hfg
  cases hr:termU e L with
  |error q=>
    rw[hr]at h1
    clear hr
    refine G_enter Tryz.func152 rfl Tryz.ntmps152 rfl fun Q hQ hQe=>?_
    (repeat'(first|((with_reducible refine Eof.use hE ?_))|(with_reducible first|(refine Kof.use hKh ?_;clear hKh Kh)|(refine Kof.use hKb (P_next ?_);clear hKb Kb)|refine G_plan 0 [([0,1,2],3,[[0,1]]),([4],5,[[],[]]),([6],7,[[],[],[]])] [] hQe fun K E hK hE=>?_)|((first|(with_reducible first|refine P_heads fun Kh hKh=>?_|refine P_each fun Kb hKb=>?_)|((with_reducible refine call_pw can153 (h1 _) (fun a Lx h=>?_) (fun at_ er Lx h=>?_))))<;>(try simp(disch:=first|assumption|omega) only[go_sem,seval,hm, *]))))
    all_goals first
      |(cases h;done)
      | (refine G_pan hQ ?_
         cases h
         exact⟨_,Fg.ru HF,rfl,_,rfl⟩)
  |ok q=>
    obtain⟨x,L'⟩:=q
    rw[hr]at h1
    have h1r:=fun s=>(h1 s).ret
    clear hr h1
    obtain⟨xv,xn,xm⟩:=x
    simp only[trmC]at h1r
    refine G_enter Tryz.func152 rfl Tryz.ntmps152 rfl fun Q hQ hQe=>?_
    (repeat'(first|(with_reducible first|(refine Kof.use hK ?_;clear hK hE K E)|(refine Kof.use hKh ?_;clear hKh Kh)|(refine Kof.use hKb (P_next ?_);clear hKb Kb)|refine G_plan 0 [([0,1,2],3,[[0,1]]),([4],5,[[],[]]),([6],7,[[],[],[]])] [] hQe fun K E hK hE=>?_)|((first|(with_reducible first|refine call_ret can153 (h1r _) ?_|refine P_heads fun Kh hKh=>?_|refine P_fin fun Kh hKh=>?_|refine P_each fun Kb hKb=>?_)|((with_reducible refine W_app (fun o2 ho=>?_));(try simp(disch:=assumption) only[disown_set,disown_own,ownok_o,ownok_m,List.length_map,List.length_cons,List.length_nil,Nat.zero_add,hm,trmC,Ru_ok,Ru_dis,Ru_own,Ru_ownd]at ho);(repeat(obtain⟨_,ho⟩:=ho))))<;>(try simp(disch:=first|assumption|omega) only[go_sem,seval,hm,trmC,Ru_ok,Ru_dis,Ru_own,Ru_ownd, *]))))
    all_goals(refine W_norm res152 hQ ?_)
    all_goals exact⟨_,_,Wk.refl _,Fg.refl _,rfl,o2,by simp[Am,trmC],by simpa using ho,by assumption,by assumption,ho.not (by rw[h2];simp)⟩
end Go.Proofs.YtgdbgfjhenobdaaGreatDoor
