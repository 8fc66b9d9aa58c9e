/- Walks of functions that the claim reaches, and plain facts of them. Conditions: those in the statements. -/
import Derived.Test.YtndlnadbnganeaaGreatDoorJnGpj
import Derived.Test.YtndlnadbnganeaaGreatDoorJnLexj
import Derived.Test.YtndlnadbnganeaaGreatDoorJnSf
import Derived.Test.YtndlnadbnganeaaGreatDoorJnFacts
import Derived.Test.YtndlnadbnganeaaGreatDoorJnShelfN
set_option linter.unusedSimpArgs false
set_option linter.unusedVariables false
namespace Go.Proofs.YtndlnadbnganeaaGreatDoor
open Go.RowKit
def GS (s s':St):Prop:=∀(w0:World) (G:Gh) (w:World),Sim w0 G w s→Sim w0 G w s'
theorem GS.refl (s:St):GS s s:=fun _ _ _ h=>h
theorem GS.trans {a b c:St}(h:GS a b)(k:GS b c):GS a c:=fun w0 G w x=>k w0 G w (h w0 G w x)
theorem GS.of_fg {s s':St}(h:Fg s s'):GS s s':=fun _ _ _ x=>x.forget h
section
variable {w0 w : World} {G : Gh} {s : St} {b : Nat} {T : TypeId} {xs : List VV} {rs rs' : List (Nat × TypeId × Nat)}
theorem set_some {α:Type}{xs:List α}{i:Nat}{x y:α}(h:xs[i]?=some x):(xs.set i y)[i]?=some y:=by
 have:=(List.getElem?_eq_some_iff.mp h).1
 simp[this]
end
section
variable {P : Program} {N : Nat} {D : List Deferred} {k : List Itm} {Q : Pst} {env : Env} {s : St} {c : Code}
theorem Kp_gs {s':St}(hg:GS s s')(h:Kp P N D (.code c::k) Q .norm env s'):Kp P N D (.code c::k) Q .norm env s:=
 fun w0 G w a hfr hD hS=>h w0 G w a hfr hD (hg _ _ _ hS)
theorem SCalls.gs {f:FuncId}{xs:List VV}{Q:SEnd→St→Prop}(h:SCalls P f xs s fun e t=>∃t',GS t t'∧Q e t'):SCalls P f xs s Q:=by
 intro w0 G w vs hS hR
 refine(h w0 G w vs hS hR).mono ?_
 rintro e w' ⟨G',s',x,hG,hS',hE,t',hg,hq⟩
 exact⟨G',t',x,hG,hg _ _ _ hS',hE,hq⟩
end
theorem set_free_self {s:St}{b:Nat}(h:s b=.free):s.set b .free=s:=St.set_self s b .free h
theorem row_freed {s:St}{b b':Nat}(h:b'=b∨s b'=.free):(s.set b .free) b'=.free:=by
 by_cases e:b'=b
 ·subst e;exact St.set_same _ _ _
 ·rw[St.set_other _ _ e];rcases h with h|h
  ·exact absurd h e
  ·exact h
section
variable {k : VV → St → Prop} {e : TypeId} {q : QI} {b n : Nat} {xs : List VV} {ys : List (List VV)} {s S' : St}
theorem W_appM (h:∀b',S' b'=.free→k (.mrw b' (n+ys.length)) (S'.set b' (.row e q.sz (xs++ys.flatten))))
  (hb:s b=.row e q.sz xs:=by((try simp(disch:=first|assumption|omega) only[go_sem,seval, *]);rfl))
  (hl:xs.length=n * q.sz:=by first|assumption|omega|((try simp only[go_sem,List.length_map, *]);first|rfl|omega)|((try simp only[go_sem,List.length_map,List.length_cons,List.length_nil, *]);omega)|simp only[go_sem,List.length_map,List.length_cons,List.length_nil, *])
  (hS:s.set b .free=S':=by((try simp(disch:=first|assumption|omega) only[go_sem,seval,set_free_self, *]);rfl))
  (h1:(n+ys.length) * q.bt≤140737488355328:=by first|((try simp only[go_sem, *]);omega)|simp only[go_sem, *])
  (h2:n+ys.length≤9223372036854775807:=by first|((try simp only[go_sem, *]);omega)|simp only[go_sem, *])
  (hy:∀y,y∈ys→y.length=q.sz:=by first|assumption|(intro y hy;simp only[List.mem_singleton]at hy;subst hy;first|rfl|(simp only[go_sem];done)|(simp;done)))
  (hz:q.zok=true:=by rfl):vappendM k e q b n ys s:=
 ⟨xs,hb,hl,h1,h2,hy,hz,fun b' hb'=>by rw[hS];exact h b' (hS ▸ row_freed hb')⟩
theorem W_app0 (h:∀b',s b'=.free→k (.mrw b' ys.length) (s.set b' (.row e q.sz ys.flatten)))
  (h0:ys≠[]:=by first|assumption|simp)
  (h1:ys.length * q.bt≤140737488355328:=by first|((try simp only[go_sem, *]);omega)|simp only[go_sem, *])
  (h2:ys.length≤9223372036854775807:=by first|((try simp only[go_sem, *]);omega)|simp only[go_sem, *])
  (hy:∀y,y∈ys→y.length=q.sz:=by first|assumption|(intro y hy;simp only[List.mem_singleton]at hy;subst hy;first|rfl|(simp only[go_sem];done)|(simp;done)))
  (hz:q.zok=true:=by rfl):vappend0 k e q ys s:=⟨h0,h1,h2,hy,hz,h⟩
end
def GSg (s s':St):Prop:=∀(w0:World) (G:Gh) (w:World),Sim w0 G w s→∃G',G.le G'∧Sim w0 G' w s'
theorem GSg.of_gs {s s':St}(h:GS s s'):GSg s s':=fun w0 G w a=>⟨G,Gh.le.refl G,h w0 G w a⟩
theorem GSg.of_fg {s s':St}(h:Fg s s'):GSg s s':=.of_gs (.of_fg h)
theorem GSg.refl (s:St):GSg s s:=.of_gs (GS.refl s)
theorem GSg.trans {a b c:St}(h:GSg a b)(k:GSg b c):GSg a c:=fun w0 G w x=>by
 obtain⟨G1,h1,h2⟩:=h w0 G w x
 obtain⟨G2,h3,h4⟩:=k w0 G1 w h2
 exact⟨G2,h1.trans h3,h4⟩
section
variable {w0 w : World} {G : Gh} {s : St} {b g i n : Nat} {T T' : TypeId} {xs cs : List VV}
theorem Sim.frzR (h:Sim w0 G w s)(hb:s g=.row T 1 xs) :
  ∃G',G.le G'∧Sim w0 G' w (s.set g .free)∧(∀(i:Nat) (y:VV),xs[i]?=some y→y.one=true∧∃v,G'.K g i=some v∧R G' v y)∧∀b',b'≠g→∀i,G'.K b' i=G.K b' i:=by
 have hok:=h.ok g
 rw[hb]at hok
 obtain⟨hB,hn,c,cap,hh,hq,hs,hl,hm,hx⟩:=hok
 have hle:G.le ⟨fun b' i=>if b'=g then(if i<xs.length then c[i]? else none)else G.K b' i,G.cap⟩:=⟨fun b' i v hv=>by
  by_cases e:b'=g
  ·subst e;rw[hn i]at hv;cases hv
  ·simp only[if_neg e];exact hv,fun _ _ hc=>hc⟩
 refine⟨_,hle,⟨h.below,fun b' i v hv=>?_,h.cap,fun b'=>?_,h.gl,?_⟩,fun i y hy=>?_,fun b' hb' i=>if_neg hb'⟩
 ·by_cases e:b'=g
  ·subst e
   simp only[if_true]at hv
   split at hv
   ·simp[World.cell?,hh,hv]
   ·cases hv
  ·simp only[if_neg e]at hv
   exact h.K _ _ _ hv
 ·by_cases e:b'=g
  ·subst e;rw[St.set_same];trivial
  ·rw[St.set_other _ _ e]
   exact CellOk.keep (h.ok b') rfl hle (fun i=>if_neg e)
 ·refine Rows.keep h.rows hle (Nat.le_refl _) (fun g' hg hs=>?_) (fun b' T' xs' rs hb'=>?_)
  ·have hne:g'≠g:=by rintro rfl;rw[hb]at hs;cases hs
   exact⟨by rw[St.set_other _ _ hne];exact hs,rfl,fun i=>if_neg hne⟩
  ·have hne:b'≠g:=by rintro rfl;rw[St.set_same]at hb';cases hb'
   rw[St.set_other _ _ hne]at hb'
   exact⟨xs',rs,hb',fun r hr=>⟨hr,rfl,fun c hc=>⟨c,hc,rfl⟩⟩⟩
 ·obtain⟨h1,v,hv,hr⟩:=hx i y hy
  have hi:=(List.getElem?_eq_some_iff.1 hy).1
  exact⟨h1,v,by simp only[if_true,if_pos hi];exact hv,hr.mono hle⟩
theorem R.frz {G:Gh}{v:Value}(hn:xs.length=n)(hK:∀(i:Nat) (y:VV),xs[i]?=some y→y.one=true∧∃v,G.K g i=some v∧R G v y)(hr:R G v (.mrw g n)):R G v (.lst (xs.map fun y=>[y]) .no):=by
 cases hr with
 |mrw b' n' cap sz hq hc=>
  rcases Nat.eq_zero_or_pos n with h0|hpos
  ·subst h0
   have:xs=[]:=List.eq_nil_of_length_eq_zero hn
   subst this
   exact .emp _ _ _ (.inl rfl)
  ·have hv:∀i,i<n→∃v,G.K g i=some v∧∀y,xs[i]?=some y→R G v y:=fun i hi=>by
    obtain⟨_,v,h1,h2⟩:=hK i xs[i] (List.getElem?_eq_getElem (by omega))
    exact⟨v,h1,fun y hy=>by rw[List.getElem?_eq_getElem (by omega)]at hy;injection hy with hy;exact hy ▸ h2⟩
   refine .lst g 0 n cap 1 _ .no (fun i _=>(G.K g i).getD default) (by rw[List.length_map];exact hn) hc ?_ ?_ ?_ ?_ (.inl rfl)
   ·intro x hx
    obtain⟨y,_,rfl⟩:=List.mem_map.1 hx
    rfl
   ·intro x hx y hy
    obtain⟨z,hz,rfl⟩:=List.mem_map.1 hx
    rw[List.mem_singleton]at hy
    subst hy
    obtain⟨i,hi⟩:=List.mem_iff_getElem?.1 hz
    exact(hK i y hi).1
   ·intro i j hi hj
    obtain⟨v,h1,_⟩:=hv i hi
    have:j=0:=by omega
    subst this
    simp[h1]
   ·intro i j x y hx hy
    rw[List.getElem?_map]at hx
    obtain⟨z,hz,rfl⟩:=Option.map_eq_some_iff.1 hx
    have hi:i<n:=by have:=(List.getElem?_eq_some_iff.1 hz).1;omega
    obtain⟨v,h1,h2⟩:=hv i hi
    have hj:j=0:=by
     have:=(List.getElem?_eq_some_iff.1 hy).1
     simp at this;exact this
    subst hj
    simp at hy
    subst hy
    rw[h1]
    exact h2 z hz
theorem GSg.frz (hb:s b=.obj T cs)(hi:cs[i]?=some (.mrw g n))(hg:s g=.row T' 1 xs)(hn:xs.length=n) :
  GSg s ((s.set g .free).set b (.obj T (cs.set i (.lst (xs.map fun y=>[y]) .no)))):=by
 intro w0 G w h
 have hne:¬ b=g:=by rintro rfl;rw[hb]at hg;cases hg
 obtain⟨G',hle,hS,hK,_⟩:=h.frzR hg
 have hob:=hS.ok b
 rw[St.set_other _ _ hne,hb]at hob
 obtain⟨hB,hnK,c,hc,hsz,hx⟩:=hob
 refine⟨G',hle,hS.below,hS.K,hS.cap,fun x=>?_,hS.gl,hS.rows.keep' (Gh.le.refl _) (Nat.le_refl _) (fun g' _ hg'=>⟨?_,rfl,fun _=>rfl⟩) (fun b' T xs rs hb'=>?_)⟩
 ·by_cases hxb:x=b
  ·subst hxb
   rw[St.set_same]
   refine⟨hB,hnK,c,hc,by rw[hsz,List.length_set],fun j y hj=>?_⟩
   by_cases hji:j=i
   ·subst hji
    rw[set_some hi]at hj
    injection hj with hj
    subst hj
    obtain⟨_,v,hv,hr⟩:=hx j _ hi
    exact⟨rfl,v,hv,hr.frz hn hK⟩
   ·rw[List.getElem?_set_ne (Ne.symm hji)]at hj
    exact hx j y hj
  ·rw[St.set_other _ _ hxb];exact hS.ok x
 ·by_cases e:g'=b
  ·subst e;rw[St.set_other _ _ hne,hb]at hg';cases hg'
  ·rw[St.set_other _ _ e];exact hg'
 ·by_cases e:b'=b
  ·subst e;rw[St.set_same]at hb';cases hb'
  ·rw[St.set_other _ _ e]at hb';exact⟨hb',rfl⟩
theorem GS.rawnil (hb:s b=.obj T cs)(hi:cs[i]?=some (.lst [] .full)):GS s (s.set b (.obj T (cs.set i (.raw (.slice none 0 0))))):=by
 intro w0 G w h
 have hob:=h.ok b
 rw[hb]at hob
 obtain⟨hB,hnK,c,hc,hsz,hx⟩:=hob
 refine⟨h.below,h.K,h.cap,fun x=>?_,h.gl,h.rows.keep' (Gh.le.refl _) (Nat.le_refl _) (fun g' _ hg'=>⟨?_,rfl,fun _=>rfl⟩) (fun b' T xs rs hb'=>?_)⟩
 ·by_cases hxb:x=b
  ·subst hxb
   rw[St.set_same]
   refine⟨hB,hnK,c,hc,by rw[hsz,List.length_set],fun j y hj=>?_⟩
   by_cases hji:j=i
   ·subst hji
    rw[set_some hi]at hj
    injection hj with hj
    subst hj
    obtain⟨_,v,hv,hr⟩:=hx j _ hi
    refine⟨rfl,v,hv,?_⟩
    generalize hq:VV.lst [] .full=q at hr
    cases hr with
    |emp a cap o ho=>
     injection hq with _ hq;subst hq
     rcases ho with e|⟨_,rfl,rfl⟩
     ·cases e
     ·exact .raw _
    |lst b' off len cap sz' xs' o f hl hc' hz h1' hK hR' ho'=>
     injection hq with hq1 hq2;subst hq1;subst hq2
     rcases ho' with e|⟨_,e1,e2⟩|⟨e,_⟩
     ·cases e
     ·simp at hl;omega
     ·cases e
    |_=>cases hq
   ·rw[List.getElem?_set_ne (Ne.symm hji)]at hj
    exact hx j y hj
  ·rw[St.set_other _ _ hxb];exact h.ok x
 ·by_cases e:g'=b
  ·subst e;rw[hb]at hg';cases hg'
  ·rw[St.set_other _ _ e];exact hg'
 ·by_cases e:b'=b
  ·subst e;rw[St.set_same]at hb';cases hb'
  ·rw[St.set_other _ _ e]at hb';exact⟨hb',rfl⟩
end
section
variable {P : Program} {N : Nat} {D : List Deferred} {k : List Itm} {Q : Pst} {env : Env} {s : St} {c : Code}
theorem Kp_gsg {s':St}(hg:GSg s s')(h:Kp P N D (.code c::k) Q .norm env s'):Kp P N D (.code c::k) Q .norm env s:=by
 intro w0 G w a hfr hD hS
 obtain⟨G',hle,hS'⟩:=hg _ _ _ hS
 exact wp_mono (h w0 G' w a ⟨hfr.size,fun i=>(hfr.rel i).mono hle⟩ hD hS') fun e a w=>Up.back hle
theorem SCalls.pre {f:FuncId}{xs:List VV}{Q:SEnd→St→Prop}{s0:St}(hg:GSg s0 s)(h:SCalls P f xs s Q):SCalls P f xs s0 Q:=by
 intro w0 G w vs hS hR
 obtain⟨G',hle,hS'⟩:=hg _ _ _ hS
 refine(h w0 G' w vs hS' ⟨hR.1,fun j v y hv hy=>(hR.2 j v y hv hy).mono hle⟩).mono ?_
 rintro e w' ⟨G2,s',x,hG,hS2,hE,hq⟩
 exact⟨G2,s',x,hle.trans hG,hS2,hE,hq⟩
end
open Go.RowKit Go.Lib
def rowV (r:List Int):VV:=.lst (intsL r) .no
theorem row_read {G:Gh}{v:Value}{r:List Int}{o:Own}(h:R G v (.lst (intsL r) o)) :
  ∃ba b off c,v=.slice ba r.length c∧(r.length=0∨ba=some ⟨b,off,none⟩)∧∀(j:Nat) (x:Int),r[j]?=some x→G.K b (off+j)=some (.int .i64 x):=by
 generalize hl:intsL r=l at h
 cases h with
 |emp a cap o ho=>
  have:r=[]:=by cases r with
   |nil=>rfl
   |cons a t=>cases hl
  subst this
  exact⟨a,0,0,cap,rfl,.inl rfl,fun j x hx=>by simp at hx⟩
 |lst b off len cap sz xs o f hl' hc hz h1 hK hR ho=>
  subst hl
  rw[intsL_len]at hl'
  subst hl'
  refine⟨_,b,off,cap,rfl,.inr rfl,fun j x hx=>?_⟩
  have hj:=(List.getElem?_eq_some_iff.1 hx).1
  have hsz:sz=1:=by
   have:=hz [VV.int .i64 x] (List.mem_of_getElem? (intsL_at hx))
   simpa using this.symm
  subst hsz
  have h2:=hK j 0 hj (by omega)
  have h3:=hR j 0 [VV.int .i64 x] (.int .i64 x) (intsL_at hx) rfl
  cases h4:f j 0 with
  |int k n=>rw[h4]at h3 h2;cases h3;simpa using h2
  |_=>rw[h4]at h3;cases h3
def sortR (l:List (List Int)):List (List Int):=l.foldl putRow []
theorem sortR_go:∀(l m:List (List Int)),Rising m→Rising (l.foldl putRow m)∧∀r,r∈l.foldl putRow m↔r∈m∨r∈l
 |[],m,h=>⟨h,fun r=>by simp⟩
 |a::l,m,h=>by
  have ih:=sortR_go l (putRow m a) (putRow_rising h)
  refine⟨ih.1,fun r=>?_⟩
  rw[List.foldl_cons,ih.2 r,putRow_mem,List.mem_cons]
  grind
theorem sortR_rising (l:List (List Int)):Rising (sortR l):=(sortR_go l [] Rising.nil).1
theorem sortR_mem {l:List (List Int)}{r:List Int}:r∈sortR l↔r∈l:=by rw[sortR,(sortR_go l [] Rising.nil).2 r];simp
theorem sortR_uniq {l m:List (List Int)}(h:Rising m)(hm:∀r,r∈m↔r∈l):m=sortR l:=rising_eq h (sortR_rising l) fun r=>(hm r).trans sortR_mem.symm
section
variable {s : St}
end
end Go.Proofs.YtndlnadbnganeaaGreatDoor
namespace Go.Proofs.YtndlnadbnganeaaGreatDoor
open Go.RowKit Go.Lib
theorem Sim.know {w0 w w':World}{G:Gh}{s:St}(h:Sim w0 G w s)(hb:Below w.heap.size w w')(b:Nat)(hlt:w.heap.size≤b)(F:Nat→Option Value)(hF:∀i v,F i=some v→w'.cell? ⟨b,i,none⟩=some v) :
  ∃G',G.le G'∧Sim w0 G' w' s∧∀i v,F i=some v→G'.K b i=some v:=by
 have hn:∀i,G.K b i=none:=fun i=>by
  cases hk:G.K b i with
  |none=>rfl
  |some v=>exact absurd (h.K_lt hk) (by omega)
 have hle:G.le ⟨fun b' i=>if b'=b then F i else G.K b' i,G.cap⟩:=⟨fun b' i v hv=>by
  by_cases e:b'=b
  ·subst e;rw[hn i]at hv;cases hv
  ·simp only[if_neg e];exact hv,fun _ _ hc=>hc⟩
 have h1:=h.world hb
 refine⟨_,hle,⟨h1.below,fun b' i v hv=>?_,h1.cap,fun b'=>?_,h.gl,?_⟩,fun i v hv=>by simp only[if_true];exact hv⟩
 ·by_cases e:b'=b
  ·subst e
   simp only[if_true]at hv
   exact hF i v hv
  ·simp only[if_neg e]at hv
   exact h1.K b' i v hv
 ·by_cases e:b'=b
  ·subst e
   have hf:s b'=.free:=by
    by_cases hc:s b'=.free
    ·exact hc
    ·exact absurd (h.lt hc) (by omega)
   rw[hf]
   trivial
  ·exact(h1.ok b').keep rfl hle fun i=>if_neg e
 ·exact h.rows.keep' hle hb.size (fun g hl hg=>⟨hg,hb.block g hl,fun i=>if_neg (by omega)⟩) fun x T xs rs hx=>⟨hx,hb.block x (h.lt (by rw[hx];simp))⟩
theorem RL_one {G:Gh}{vs:Array Value}{x:VV}(h:RL G vs [x]):∃a,vs=#[a]∧R G a x:=by
 obtain⟨hs,hr⟩:=h
 obtain⟨l⟩:=vs
 match l,hs,hr with
 |[a],_,hr=>exact⟨a,rfl,hr 0 a x rfl rfl⟩
theorem row_known {G:Gh}{r:List Int}{g cap:Nat}(hc:r.length≤cap)(h:∀(i:Nat) (x:Int),r[i]?=some x→G.K g i=some (.int .i64 x)):R G (.slice (some ⟨g,0,none⟩) r.length cap) (rowV r):=by
 refine .lst g 0 r.length cap 1 (intsL r) .no (fun i _=>.int .i64 ((r[i]?).getD 0)) intsL_len hc ?_ ?_ ?_ ?_ (.inl rfl)
 ·intro x hx
  obtain⟨y,_,rfl⟩:=List.mem_map.1 hx
  rfl
 ·intro x hx y hy
  obtain⟨z,_,rfl⟩:=List.mem_map.1 hx
  rw[List.mem_singleton]at hy
  subst hy
  rfl
 ·intro i j hi hj
  have:j=0:=by omega
  subst this
  rw[List.getElem?_eq_getElem hi]
  simpa using h i r[i] (List.getElem?_eq_getElem hi)
 ·intro i j x y hx hy
  simp only[intsL,List.getElem?_map]at hx
  obtain⟨z,hz,rfl⟩:=Option.map_eq_some_iff.1 hx
  have hj:j=0:=by
   have:=(List.getElem?_eq_some_iff.1 hy).1
   simp at this;exact this
  subst hj
  simp at hy
  subst hy
  simp only[hz,Option.getD_some]
  exact .int .i64 z
theorem own_known {w0 w w':World}{G:Gh}{s:St}{r:List Int}{v':Value}(hS:Sim w0 G w s)(ho:w'.ownsRow w.heap.size 3 1 v' r.length (r.map (Value.int .i64)))(hb:Below w.heap.size w w') :
  ∃G',G.le G'∧Sim w0 G' w' s∧R G' v' (rowV r):=by
 obtain⟨hl,ho⟩:=ho
 rcases ho with ⟨rfl,h0⟩|⟨g,cap,cur,rfl,hge,hh,hcap,hm,hsz,hcur⟩
 ·have:r=[]:=List.eq_nil_of_length_eq_zero h0
  subst this
  exact⟨G,Gh.le.refl G,hS.world hb,.emp none 0 .no (.inl rfl)⟩
 ·obtain⟨G',h1,h2,h3⟩:=hS.know hb g hge (fun i=>if i<r.length then cur[i]? else none) fun i v hv=>by
   split at hv
   ·simp only[World.cell?,hh];exact hv
   ·cases hv
  refine⟨G',h1,h2,row_known hcap fun i x hi=>h3 i _ ?_⟩
  have hil:=(List.getElem?_eq_some_iff.1 hi).1
  simp only[if_pos hil]
  have h4:(cur.toList.take (r.length * 1))[i]?=some (.int .i64 x):=by rw[hcur,List.getElem?_map,hi];rfl
  rw[List.getElem?_take_of_lt (by omega),Array.getElem?_toList]at h4
  exact h4
theorem CloneM_S (r:List Int)(b:Nat)(T:TypeId)(s:St)(hs:s b=.obj T (ints r))(hl:r.length * 8≤140737488355328):SRet Tryz.prog 98 [.msl b r.length] s (rowV r) s:=by
 intro w0 G w vs hS hA
 obtain⟨v,rfl,hr⟩:=RL_one hA
 cases hr with
 |msl=>
 have hok:=hS.ok b
 rw[hs]at hok
 obtain⟨_,_,c,hh,hsz,hx⟩:=hok
 refine(Tryz.slices_Clone_int b 0 r.length r.length r w (Nat.le_refl _) hl fun j hj=>?_).mono ?_
 ·obtain⟨_,v,hv,hr⟩:=hx j (.int .i64 r[j]) (by simp[ints,List.getElem?_eq_getElem hj])
  simp only[World.cell?,hh,Nat.zero_add,hv,List.getD_eq_getElem?_getD,List.getElem?_eq_getElem hj,Option.getD_some]
  cases v with
  |int k n=>cases hr;rfl
  |_=>cases hr
 ·rintro e w' ⟨v',rfl,ho,_,hb⟩
  rw[List.take_length]at ho
  obtain⟨G',h1,h2,h3⟩:=own_known hS ho hb
  exact⟨G',s,.ret (rowV r),h1,h2,h3,rfl,rfl⟩
end Go.Proofs.YtndlnadbnganeaaGreatDoor
namespace Go.Proofs.YtndlnadbnganeaaGreatDoor
open Go.RowKit Go.Lib Go.Sort
theorem cmp_swo {α:Type}(ct:α→List Int):SWO (ltOf fun x y=>cmpZ (ct x) (ct y)) where
 irrefl x:=by simp[ltOf,cmpZ_self]
 trans x y z h1 h2:=by
  simp only[ltOf,decide_eq_true_eq]at *
  exact cmpZ_trans _ _ _ h1 h2
 ntrans x y z h1 h2:=by
  simp only[ltOf,decide_eq_false_iff_not]at *
  intro h3
  rcases Int.lt_or_le 0 (cmpZ (ct x) (ct y))with h|h
  ·have:cmpZ (ct y) (ct x)<0:=by rw[cmpZ_neg];omega
   exact h2 (cmpZ_trans _ _ _ this h3)
  ·have h0:cmpZ (ct x) (ct y)=0:=by omega
   rw[cmpZ_eq h0]at h3
   exact h2 h3
theorem sort_cell (enc:Nat→Value)(w:World)(g m:Nat)(dk:Array Nat)(os:Array Obj){b:Nat}(hb:b≠g)(hlt:b<w.heap.size):(sortWorld enc w g 0 m dk os).heap[b]?=w.heap[b]?:=by
 unfold sortWorld
 rw[heap_grow_old _ _ (by simp[putRow,mapBlock,Sort.ahead];exact hlt)]
 show (w.heap.modify g _)[b]?=_
 rw[Array.getElem?_modify,if_neg (Ne.symm hb)]
theorem perm_rows {rows:List (List Int)}{d:List Nat}(hd:d.Perm (List.range rows.length)):(d.map fun i=>(rows[i]?).getD []).Perm rows:=by
 have h:=hd.map fun i=>(rows[i]?).getD []
 refine h.trans (List.Perm.of_eq ?_)
 apply List.ext_getElem
 ·simp
 ·intro i h1 h2
  simp[List.getElem?_eq_getElem h2]
theorem Sort_S (rows:List (List Int))(g:Nat)(T:TypeId)(hn:rows.length≤140737488355328)(hnd:rows.Nodup)(hlen:∀r,r∈rows→r.length≤140737488355328)(s:St)(hs:s g=.row T 1 (rows.map rowV)) :
  SRet Tryz.prog 34 [.mrw g rows.length,.fn 35 []] s (.tup []) (s.set g (.row T 1 ((sortR rows).map rowV))):=by
 intro w0 G w vs hS hA
 obtain⟨v1,v2,rfl,r1,r2⟩:=RL_two hA
 cases r1 with
 |mrw _ _ cap sz hq hc=>
 cases r2 with
 |fn f us xs hus hR=>
 obtain rfl:us=#[]:=Array.eq_empty_of_size_eq_zero (by simpa using hus)
 have hok:=hS.ok g
 rw[hs]at hok
 obtain⟨hB,hnK,c,cap',hh,hq',hcs,hl,hm,hx⟩:=hok
 rw[List.length_map]at hl
 have hblk:g<w.heap.size:=hS.lt (by rw[hs];simp)
 have hcell:∀(i:Nat) (r:List Int),rows[i]?=some r→∃v,c[i]?=some v∧R G v (rowV r):=fun i r hr=>(hx i (rowV r) (by simp[hr])).2
 let enc:Nat→Value:=fun i=>if i<rows.length then(c[i]?).getD (.slice none 0 0)else .slice none 0 0
 let ct:Nat→List Int:=fun i=>(rows[i]?).getD []
 have henc:∀i,∃v,R G v (rowV (ct i))∧enc i=v∧(i<rows.length→c[i]?=some v):=fun i=>by
  by_cases hi:i<rows.length
  ·obtain⟨v,h1,h2⟩:=hcell i _ (List.getElem?_eq_getElem hi)
   exact⟨v,by simp only[ct,List.getElem?_eq_getElem hi,Option.getD_some];exact h2,by simp only[enc,if_pos hi,h1,Option.getD_some],fun _=>h1⟩
  ·refine⟨.slice none 0 0,?_,by simp only[enc,if_neg hi],fun h=>absurd h hi⟩
   simp only[ct,List.getElem?_eq_none (Nat.le_of_not_lt hi),Option.getD_none]
   exact .emp none 0 .no (.inl rfl)
 have hone:OneCell enc:=fun i=>by
  obtain⟨v,h1,h2,_⟩:=henc i
  rw[h2,h1.one]
  rfl
 have hctl:∀i,(ct i).length≤140737488355328:=fun i=>by
  cases hi:rows[i]? with
  |none=>simp[ct,hi]
  |some r=>simp only[ct,hi,Option.getD_some];exact hlen r (List.mem_of_getElem? hi)
 have hcmp:CmpReads Tryz.prog 35 #[] enc (fun x y=>cmpZ (ct x) (ct y)) g 0 (Array.range rows.length).size w:=by
  intro m os dk hdk x y
  obtain⟨v1,k1,e1,_⟩:=henc x
  obtain⟨v2,k2,e2,_⟩:=henc y
  obtain⟨ba,b1,f1,c1,hv1,g1,q1⟩:=row_read k1
  obtain⟨bb,b2,f2,c2,hv2,g2,q2⟩:=row_read k2
  rw[e1,e2,hv1,hv2]
  have hk:∀(b i:Nat) (v:Value),G.K b i=some v→(sortWorld enc w g 0 m dk os).cell? ⟨b,i,none⟩=some v:=fun b i v h=>by
   have hne:b≠g:=by rintro rfl;rw[hnK]at h;cases h
   exact(World.cell?_of_block (w:=w) (sort_cell enc w g m dk os hne (hS.K_lt h))).trans (hS.K _ _ _ h)
  refine(cmp_raw ba bb b1 f1 c1 b2 f2 c2 (ct x) (ct y) _ (hctl x) (hctl y) g1 g2 (fun j z hz=>hk _ _ _ (q1 j z hz)) fun j z hz=>hk _ _ _ (q2 j z hz)).mono ?_
  rintro e w' ⟨rfl,rfl⟩
  exact⟨rfl,0,rfl⟩
 have hH:Holds enc w g 0 (Array.range rows.length):=fun j hj=>by
  rw[Array.size_range]at hj
  obtain⟨v,h1,h2,h3⟩:=henc j
  have hj3:=h3 hj
  constructor
  ·rw[getElem!_pos _ j (by simpa using hj),Array.getElem_range,h2]
   simp only[World.cell?,Nat.zero_add,hh]
   exact hj3
  ·simp[World.frozen?,hh]
 have hsz:(Array.range rows.length).size=rows.length:=Array.size_range
 have hmain:=Tryz.slices_SortFunc enc hone (fun x y=>cmpZ (ct x) (ct y)) (cmp_swo ct) 35 #[] g 0 cap (Array.range rows.length) w can35 hcmp.lays hH hblk (by rw[hsz];omega)
 rw[hsz]at hmain
 refine hmain.mono ?_
 rintro e w' ⟨rfl,d',n,os,hp,hsrt,rfl⟩
 obtain⟨hp1,hp2,hp3⟩:=hp
 rw[hsz]at hp1
 have hex:(d'.extract 0 rows.length)=d':=by rw[← hp1];exact Array.extract_size ..
 have hex2:((Array.range rows.length).extract 0 rows.length)=Array.range rows.length:=by have h:=Array.extract_size (xs:=Array.range rows.length);rw[hsz]at h;exact h
 rw[hex,hex2,Array.toList_range]at hp3
 have hperm:(d'.toList.map ct).Perm rows:=perm_rows hp3
 have hdl:d'.toList.length=rows.length:=by simpa using hp1
 have hR':d'.toList.map ct=sortR rows:=by
  refine sortR_uniq ?_ fun r=>hperm.mem_iff
  have hnd':(d'.toList.map ct).Nodup:=hperm.nodup_iff.2 hnd
  unfold Rising
  rw[List.pairwise_iff_getElem]
  intro i j hi hj hij
  have hi':i<d'.size:=by simpa using hi
  have hj':j<d'.size:=by simpa using hj
  have h1:=hsrt i j (Nat.zero_le _) hij (by omega)
  rw[getElem!_pos d' i hi',getElem!_pos d' j hj']at h1
  simp only[ltOf,decide_eq_false_iff_not]at h1
  have hne:=(List.pairwise_iff_getElem.1 hnd') i j hi hj hij
  simp only[List.getElem_map,Array.getElem_toList]at hne ⊢
  have h2:cmpZ (ct d'[i]) (ct d'[j])≠0:=fun e=>hne (cmpZ_eq e)
  rw[cmpZ_neg]at h1
  omega
 have hS1:Sim w0 G (Sort.ahead w n) s:=hS.world ⟨rfl,rfl,rfl,Nat.le_refl _,fun _ _=>rfl⟩
 have hmod:∀k,(Sort.putRow enc (Sort.ahead w n) g 0 d').heap[k]?=if g=k then(w.heap[k]?).map (onCells (putCells enc 0 d'))else w.heap[k]?:=fun k=>Array.getElem?_modify ..
 have hS2:=hS1.set_row hs (Sort.putRow enc (Sort.ahead w n) g 0 d') c (putCells enc 0 d' c) (ys:=(sortR rows).map rowV) hh
  ⟨rfl,rfl,rfl,by simp[Sort.putRow,mapBlock],fun k hk=>by rw[hmod,if_neg (by omega)];rfl⟩ (by simp[Sort.putRow,mapBlock]) (by rw[hmod,if_pos rfl,hh];rfl) (fun k hk=>by rw[hmod,if_neg (Ne.symm hk)];rfl)
  (by simp[putCells]) (by rw[← hR',List.length_map,List.length_map,hdl,hcs];exact hl) (fun i x hi=>by
   rw[← hR',List.map_map,List.getElem?_map]at hi
   obtain⟨k,hk,rfl⟩:=Option.map_eq_some_iff.1 hi
   have hil:=(List.getElem?_eq_some_iff.1 hk).1
   have hkl:k<rows.length:=by
    have:=hp3.mem_iff.1 (List.mem_of_getElem? hk)
    simpa using this
   obtain⟨v,h1,h2,h3⟩:=henc k
   refine⟨rfl,v,?_,h1⟩
   have hid:i<d'.size:=by simpa using hil
   have hdk:d'[i]=k:=by
    have:=List.getElem?_eq_getElem hil
    rw[hk]at this
    injection this with this
    rw[this,Array.getElem_toList]
   have hic:i<c.size:=by rw[hcs];omega
   simp only[putCells,Array.getElem?_mapIdx,Array.getElem?_eq_getElem hic,Option.map_some,Nat.zero_le,Nat.zero_add,true_and,hid,if_true,Nat.sub_zero]
   rw[getElem!_pos d' i hid,hdk,h2])
 refine⟨G,_,.ret (.tup []),Gh.le.refl G,hS2.world ⟨rfl,rfl,rfl,?_,fun k hk=>?_⟩,.tup #[] [] rfl (fun j v y h=>by simp at h),rfl,rfl⟩
 ·simp[sortWorld,grow]
 ·exact heap_grow_old _ _ hk
theorem Sort0_S (s:St)(xs:List VV):SRet Tryz.prog 34 [.raw (.slice none 0 0),.fn 35 xs] s (.tup []) s:=by
 intro w0 G w vs hS hA
 obtain⟨v1,v2,rfl,r1,r2⟩:=RL_two hA
 cases r1 with
 |raw=>
 refine(Tryz.slices_SortFunc_none (α:=Nat) none 0 v2 w).mono ?_
 rintro e w' ⟨rfl,rfl⟩
 exact⟨G,s,.ret (.tup []),Gh.le.refl G,hS,R.tup #[] [] rfl (fun j v y h=>by simp at h),rfl,rfl⟩
end Go.Proofs.YtndlnadbnganeaaGreatDoor
set_option maxRecDepth 100000
namespace Go.Proofs.YtndlnadbnganeaaGreatDoor
open Go.RowKit Go.Lib Go.Sort
def riseZ (l:List Int):List Int:=l.mergeSort fun x y=>decide (x≤y)
theorem riseZ_perm (l:List Int):(riseZ l).Perm l:=List.mergeSort_perm _ _
theorem riseZ_len (l:List Int):(riseZ l).length=l.length:=(riseZ_perm l).length_eq
theorem riseZ_pw (l:List Int):(riseZ l).Pairwise (·≤·):=by
 have:=List.pairwise_mergeSort (le:=fun x y:Int=>decide (x≤y)) (fun a b c h1 h2=>by simp at *;omega) (fun a b=>by simp;omega) l
 exact this.imp fun h=>by simpa using h
theorem Isort_S (s:St)(g:Nat)(T:TypeId)(zs:List Int)(hn:zs.length≤100000000)(hs:s g=.row T 1 (ints zs)) :
  SRet Tryz.prog 42 [.mrw g zs.length] s (.tup []) (s.set g (.row T 1 (ints (riseZ zs)))):=by
 intro w0 G w vs hS hA
 obtain⟨v1,rfl,r1⟩:=RL_one hA
 cases r1 with
 |mrw _ _ cap sz hq hc=>
 have hok:=hS.ok g
 rw[hs]at hok
 obtain⟨hB,hnK,c,cap',hh,hq',hcs,hl,hm,hx⟩:=hok
 have hil:(ints zs).length=zs.length:=by simp[ints]
 rw[hil]at hl
 have hblk:g<w.heap.size:=hS.lt (by rw[hs];simp)
 have hcell:∀(i:Nat) (z:Int),zs[i]?=some z→c[i]?=some (.int .i64 z):=fun i z hz=>by
  obtain⟨_,v,h1,h2⟩:=hx i (.int .i64 z) (by simp[ints,hz])
  cases h2
  exact h1
 have hH:Holds (Value.int .i64) w g 0 zs.toArray:=fun j hj=>by
  rw[List.size_toArray]at hj
  have h1:=hcell j _ (List.getElem?_eq_getElem hj)
  constructor
  ·rw[getElem!_pos _ j (by simpa using hj)]
   simp only[World.cell?,Nat.zero_add,hh]
   simpa using h1
  ·simp[World.frozen?,hh]
 refine(Tryz.slices_Sort_int g 0 cap zs w hH hblk (by omega)).mono ?_
 rintro e w' ⟨rfl,n,os,rfl⟩
 have hS1:Sim w0 G (Sort.ahead w n) s:=hS.world ⟨rfl,rfl,rfl,Nat.le_refl _,fun _ _=>rfl⟩
 obtain⟨d',hd'⟩:∃d',d'=(zs.mergeSort fun x y=>decide (x≤y)).toArray:=⟨_,rfl⟩
 have hdl:d'.size=zs.length:=by rw[hd',List.size_toArray];exact riseZ_len zs
 rw[← hd']
 have hmod:∀k,(Sort.putRow (Value.int .i64) (Sort.ahead w n) g 0 d').heap[k]?=if g=k then(w.heap[k]?).map (onCells (putCells (Value.int .i64) 0 d'))else w.heap[k]?:=fun k=>Array.getElem?_modify ..
 have hS2:=hS1.set_row hs (Sort.putRow (Value.int .i64) (Sort.ahead w n) g 0 d') c (putCells (Value.int .i64) 0 d' c) (ys:=ints (riseZ zs)) hh
  ⟨rfl,rfl,rfl,by simp[Sort.putRow,mapBlock],fun k hk=>by rw[hmod,if_neg (by omega)];rfl⟩ (by simp[Sort.putRow,mapBlock]) (by rw[hmod,if_pos rfl,hh];rfl) (fun k hk=>by rw[hmod,if_neg (Ne.symm hk)];rfl)
  (by simp[putCells]) (by simp only[ints,List.length_map,riseZ_len];rw[hcs];exact hl) (fun i x hi=>by
   simp only[ints,List.getElem?_map]at hi
   obtain⟨k,hk,rfl⟩:=Option.map_eq_some_iff.1 hi
   have hil:=(List.getElem?_eq_some_iff.1 hk).1
   rw[riseZ_len]at hil
   refine⟨rfl,.int .i64 k,?_,.int _ _⟩
   have hid:i<d'.size:=by omega
   have hdk:d'[i]=k:=by
    have h3:d'.toList[i]?=some k:=by rw[hd'];exact hk
    rw[Array.getElem?_toList,Array.getElem?_eq_getElem hid]at h3
    injection h3
   have hic:i<c.size:=by rw[hcs];omega
   simp only[putCells,Array.getElem?_mapIdx,Array.getElem?_eq_getElem hic,Option.map_some,Nat.zero_le,Nat.zero_add,true_and,hid,if_true,Nat.sub_zero]
   rw[getElem!_pos d' i hid,hdk])
 refine⟨G,_,.ret (.tup []),Gh.le.refl G,hS2.world ⟨rfl,rfl,rfl,?_,fun k hk=>?_⟩,.tup #[] [] rfl (fun j v y h=>by simp at h),rfl,rfl⟩
 ·simp[grow]
 ·exact heap_grow_old _ _ hk
theorem Isort0_S (s:St):SRet Tryz.prog 42 [.raw (.slice none 0 0)] s (.tup []) s:=by
 intro w0 G w vs hS hA
 obtain⟨v1,rfl,r1⟩:=RL_one hA
 cases r1 with
 |raw=>
 refine(Tryz.slices_Sort_int_none none 0 w).mono ?_
 rintro e w' ⟨rfl,rfl⟩
 exact⟨G,s,.ret (.tup []),Gh.le.refl G,hS,R.tup #[] [] rfl (fun j v y h=>by simp at h),rfl,rfl⟩
end Go.Proofs.YtndlnadbnganeaaGreatDoor
