/- Walks. Conditions: in the statements. -/
import Derived.Test.YtohnaepcgnbaiaaGreatDoorJlGpj
import Derived.Test.YtohnaepcgnbaiaaGreatDoorJlLexj
import Derived.Test.YtohnaepcgnbaiaaGreatDoorJlSf
import Derived.Test.YtohnaepcgnbaiaaGreatDoorJlShelfN
import Derived.OpenShut
import Derived.Handed
import Derived.Shelf.Vars
set_option maxHeartbeats 32000000
set_option linter.unusedSimpArgs false
set_option linter.unusedVariables false
namespace Go.Proofs.YtohnaepcgnbaiaaGreatDoor
open Go.RowKit
def GS (s s':St):Prop:=∀(w0:World) (G:Gh) (w:World),Sim w0 G w s->Sim w0 G w s'
theorem GS.refl (s:St):GS s s:=fun _ _ _ h=>h
theorem GS.of_fg {s s':St}(h:Fg s s'):GS s s':=fun _ _ _ x=>x.forget h
section
variable {w0 w : World} {G : Gh} {s : St} {b : Nat} {T : TypeId} {xs : Tb} {rs rs' : List (Nat × TypeId × Nat)}
theorem sg {α:Type}{xs:List α}{i:Nat}{x y:α}(h:xs[i]?=some x):(xs.set i y)[i]?=some y:=by
 have:=(x_.mp h).1
 simp[this]
end
section
variable {P : Program} {N : Nat} {D : List Deferred} {k : List Itm} {Q : Pst} {env : Env} {s : St} {c : Code}
theorem Cj {s':St}(hg:GS s s')(h:Kp P N D (.code c::k) Q .norm env s'):Kp P N D (.code c::k) Q .norm env s:=
 fun w0 G w a hfr hD hS=>h w0 G w a hfr hD (hg _ _ _ hS)
end
theorem pz {s:St}{b:Nat}(h:s b=.free):s.set b .free=s:=v_ s b .free h
theorem yj {s:St}{b b':Nat}(h:b'=b\/s b'=.free):(s.set b .free) b'=.free:=by
 by_cases e:b'=b
 ·subst e;exact q_ _ _ _
 ·rw[j_ _ _ e];rcases h with h|h
  ·exact absurd h e
  ·exact h
section
variable {k : VV -> St -> Prop} {e : TypeId} {q : QI} {b n : Nat} {xs : Tb} {ys : Ta} {s S' : St}
theorem cJ (h:∀b',S' b'=.free->k (.mrw b' (n+ys.length)) (S'.set b' (.row e q.sz (xs++ys.flatten))))
  (hb:s b=.row e q.sz xs:=by((try simp(disch:=first|assumption|omega) only[go_sem,seval, *]);rfl))
  (hl:xs.length=n * q.sz:=by first|assumption|omega|((try simp only[go_sem,z_, *]);first|rfl|omega)|((try simp only[go_sem,z_,List.length_cons,List.length_nil, *]);omega)|simp only[go_sem,z_,List.length_cons,List.length_nil, *])
  (hS:s.set b .free=S':=by((try simp(disch:=first|assumption|omega) only[go_sem,seval,pz, *]);rfl))
  (h1:(n+ys.length) * q.bt<=140737488355328:=by first|((try simp only[go_sem, *]);omega)|simp only[go_sem, *])
  (h2:n+ys.length<=9223372036854775807:=by first|((try simp only[go_sem, *]);omega)|simp only[go_sem, *])
  (hy:∀y,y∈ys->y.length=q.sz:=by first|assumption|(intro y hy;simp only[a_]at hy;subst hy;first|rfl|(simp only[go_sem];done)|(simp;done)))
  (hz:q.zok=true:=by rfl):gW k e q b n ys s:=
 ⟨xs,hb,hl,h1,h2,hy,hz,fun b' hb'=>by rw[hS];exact h b' (hS ▸ yj hb')⟩
theorem fG (h:∀b',s b'=.free->k (.mrw b' ys.length) (s.set b' (.row e q.sz ys.flatten)))
  (h0:ys≠[]:=by first|assumption|simp)
  (h1:ys.length * q.bt<=140737488355328:=by first|((try simp only[go_sem, *]);omega)|simp only[go_sem, *])
  (h2:ys.length<=9223372036854775807:=by first|((try simp only[go_sem, *]);omega)|simp only[go_sem, *])
  (hy:∀y,y∈ys->y.length=q.sz:=by first|assumption|(intro y hy;simp only[a_]at hy;subst hy;first|rfl|(simp only[go_sem];done)|(simp;done)))
  (hz:q.zok=true:=by rfl):gX k e q ys s:=⟨h0,h1,h2,hy,hz,h⟩
end
def GSg (s s':St):Prop:=∀(w0:World) (G:Gh) (w:World),Sim w0 G w s->∃G',G.le G'/\Sim w0 G' w s'
theorem GSg.of_gs {s s':St}(h:GS s s'):GSg s s':=fun w0 G w a=>⟨G,Gh.le.refl G,h w0 G w a⟩
theorem GSg.of_fg {s s':St}(h:Fg s s'):GSg s s':=.of_gs (.of_fg h)
theorem GSg.refl (s:St):GSg s s:=.of_gs (GS.refl s)
theorem GSg.trans {a b c:St}(h:GSg a b)(k:GSg b c):GSg a c:=fun w0 G w x=>by
 obtain⟨G1,h1,h2⟩:=h w0 G w x
 obtain⟨G2,h3,h4⟩:=k w0 G1 w h2
 exact⟨G2,h1.trans h3,h4⟩
section
variable {w0 w : World} {G : Gh} {s : St} {b g i n : Nat} {T T' : TypeId} {xs cs : Tb}
theorem Sim.frzR (h:Sim w0 G w s)(hb:s g=.row T 1 xs) :
  ∃G',G.le G'/\Sim w0 G' w (s.set g .free)/\(∀(i:Nat) (y:VV),xs[i]?=some y->y.one=true/\∃v,G'.K g i=some v/\R G' v y)/\∀b',b'≠g->∀i,G'.K b' i=G.K b' i:=by
 have hok:=h.ok g
 rw[hb]at hok
 obtain⟨hB,hn,c,cap,hh,hq,hs,hl,hm,hx⟩:=hok
 have hle:G.le ⟨fun b' i=>if b'=g then(if i<xs.length then c[i]? else none)else G.K b' i,G.cap⟩:=⟨fun b' i v hv=>by
  by_cases e:b'=g
  ·subst e;rw[hn i]at hv;cases hv
  ·simp only[if_neg e];exact hv,fun _ _ hc=>hc⟩
 refine⟨_,hle,⟨h.below,fun b' i v hv=>?_,h.cap,fun b'=>?_,h.gl,?_⟩,fun i y hy=>?_,fun b' hb' i=>if_neg hb'⟩
 ·by_cases e:b'=g
  ·subst e
   simp only[if_true]at hv
   split at hv
   ·simp[World.cell?,hh,hv]
   ·cases hv
  ·simp only[if_neg e]at hv
   exact h.K _ _ _ hv
 ·by_cases e:b'=g
  ·subst e;rw[q_];trivial
  ·rw[j_ _ _ e]
   exact CellOk.keep (h.ok b') rfl hle (fun i=>if_neg e)
 ·refine Rows.keep h.rows hle (Nat.le_refl _) (fun g' hg hs=>?_) (fun b' T' xs' rs hb'=>?_)
  ·have hne:g'≠g:=by rintro rfl;rw[hb]at hs;cases hs
   exact⟨by rw[j_ _ _ hne];exact hs,rfl,fun i=>if_neg hne⟩
  ·have hne:b'≠g:=by rintro rfl;rw[q_]at hb';cases hb'
   rw[j_ _ _ hne]at hb'
   exact⟨xs',rs,hb',fun r hr=>⟨hr,rfl,fun c hc=>⟨c,hc,rfl⟩⟩⟩
 ·obtain⟨h1,v,hv,hr⟩:=hx i y hy
  have hi:=(x_.1 hy).1
  exact⟨h1,v,by simp only[if_true,if_pos hi];exact hv,hr.mono hle⟩
theorem R.frz {G:Gh}{v:Value}(hn:xs.length=n)(hK:∀(i:Nat) (y:VV),xs[i]?=some y->y.one=true/\∃v,G.K g i=some v/\R G v y)(hr:R G v (.mrw g n)):R G v (.lst (xs.map fun y=>[y]) .no):=by
 cases hr with
 |mrw b' n' cap sz hq hc=>
  rcases Nat.eq_zero_or_pos n with h0|hpos
  ·subst h0
   have:xs=[]:=l_ hn
   subst this
   exact .emp _ _ _ (.inl rfl)
  ·have hv:∀i,i<n->∃v,G.K g i=some v/\∀y,xs[i]?=some y->R G v y:=fun i hi=>by
    obtain⟨_,v,h1,h2⟩:=hK i xs[i] (m_ (by omega))
    exact⟨v,h1,fun y hy=>by rw[m_ (by omega)]at hy;injection hy with hy;exact hy ▸ h2⟩
   refine .lst g 0 n cap 1 _ .no (fun i _=>(G.K g i).getD default) (by rw[z_];exact hn) hc ?_ ?_ ?_ ?_ (.inl rfl)
   ·intro x hx
    obtain⟨y,_,rfl⟩:=A_.1 hx
    rfl
   ·intro x hx y hy
    obtain⟨z,hz,rfl⟩:=A_.1 hx
    rw[a_]at hy
    subst hy
    obtain⟨i,hi⟩:=d_.1 hz
    exact(hK i y hi).1
   ·intro i j hi hj
    obtain⟨v,h1,_⟩:=hv i hi
    have:j=0:=by omega
    subst this
    simp[h1]
   ·intro i j x y hx hy
    rw[n_]at hx
    obtain⟨z,hz,rfl⟩:=Option.map_eq_some_iff.1 hx
    have hi:i<n:=by have:=(x_.1 hz).1;omega
    obtain⟨v,h1,h2⟩:=hv i hi
    have hj:j=0:=by
     have:=(x_.1 hy).1
     simp at this;exact this
    subst hj
    simp at hy
    subst hy
    rw[h1]
    exact h2 z hz
theorem GSg.frz (hb:s b=.obj T cs)(hi:cs[i]?=some (.mrw g n))(hg:s g=.row T' 1 xs)(hn:xs.length=n) :
  GSg s ((s.set g .free).set b (.obj T (cs.set i (.lst (xs.map fun y=>[y]) .no)))):=by
 intro w0 G w h
 have hne:¬ b=g:=by rintro rfl;rw[hb]at hg;cases hg
 obtain⟨G',hle,hS,hK,_⟩:=h.frzR hg
 have hob:=hS.ok b
 rw[j_ _ _ hne,hb]at hob
 obtain⟨hB,hnK,c,hc,hsz,hx⟩:=hob
 refine⟨G',hle,hS.below,hS.K,hS.cap,fun x=>?_,hS.gl,hS.rows.keep' (Gh.le.refl _) (Nat.le_refl _) (fun g' _ hg'=>⟨?_,rfl,fun _=>rfl⟩) (fun b' T xs rs hb'=>?_)⟩
 ·by_cases hxb:x=b
  ·subst hxb
   rw[q_]
   refine⟨hB,hnK,c,hc,by rw[hsz,List.length_set],fun j y hj=>?_⟩
   by_cases hji:j=i
   ·subst hji
    rw[sg hi]at hj
    injection hj with hj
    subst hj
    obtain⟨_,v,hv,hr⟩:=hx j _ hi
    exact⟨rfl,v,hv,hr.frz hn hK⟩
   ·rw[i_ (Ne.symm hji)]at hj
    exact hx j y hj
  ·rw[j_ _ _ hxb];exact hS.ok x
 ·by_cases e:g'=b
  ·subst e;rw[j_ _ _ hne,hb]at hg';cases hg'
  ·rw[j_ _ _ e];exact hg'
 ·by_cases e:b'=b
  ·subst e;rw[q_]at hb';cases hb'
  ·rw[j_ _ _ e]at hb';exact⟨hb',rfl⟩
theorem GS.rawnil (hb:s b=.obj T cs)(hi:cs[i]?=some (.lst [] .full)):GS s (s.set b (.obj T (cs.set i (.raw (.slice none 0 0))))):=by
 intro w0 G w h
 have hob:=h.ok b
 rw[hb]at hob
 obtain⟨hB,hnK,c,hc,hsz,hx⟩:=hob
 refine⟨h.below,h.K,h.cap,fun x=>?_,h.gl,h.rows.keep' (Gh.le.refl _) (Nat.le_refl _) (fun g' _ hg'=>⟨?_,rfl,fun _=>rfl⟩) (fun b' T xs rs hb'=>?_)⟩
 ·by_cases hxb:x=b
  ·subst hxb
   rw[q_]
   refine⟨hB,hnK,c,hc,by rw[hsz,List.length_set],fun j y hj=>?_⟩
   by_cases hji:j=i
   ·subst hji
    rw[sg hi]at hj
    injection hj with hj
    subst hj
    obtain⟨_,v,hv,hr⟩:=hx j _ hi
    refine⟨rfl,v,hv,?_⟩
    generalize hq:VV.lst [] .full=q at hr
    cases hr with
    |emp a cap o ho=>
     injection hq with _ hq;subst hq
     rcases ho with e|⟨_,rfl,rfl⟩
     ·cases e
     ·exact .raw _
    |lst b' off len cap sz' xs' o f hl hc' hz h1' hK hR' ho'=>
     injection hq with hq1 hq2;subst hq1;subst hq2
     rcases ho' with e|⟨_,e1,e2⟩|⟨e,_⟩
     ·cases e
     ·simp at hl;omega
     ·cases e
    |_=>cases hq
   ·rw[i_ (Ne.symm hji)]at hj
    exact hx j y hj
  ·rw[j_ _ _ hxb];exact h.ok x
 ·by_cases e:g'=b
  ·subst e;rw[hb]at hg';cases hg'
  ·rw[j_ _ _ e];exact hg'
 ·by_cases e:b'=b
  ·subst e;rw[q_]at hb';cases hb'
  ·rw[j_ _ _ e]at hb';exact⟨hb',rfl⟩
end
section
variable {P : Program} {N : Nat} {D : List Deferred} {k : List Itm} {Q : Pst} {env : Env} {s : St} {c : Code}
theorem lD {s':St}(hg:GSg s s')(h:Kp P N D (.code c::k) Q .norm env s'):Kp P N D (.code c::k) Q .norm env s:=by
 intro w0 G w a hfr hD hS
 obtain⟨G',hle,hS'⟩:=hg _ _ _ hS
 exact wp_mono (h w0 G' w a ⟨hfr.size,fun i=>(hfr.rel i).mono hle⟩ hD hS') fun e a w=>Up.back hle
end
open Go.RowKit Go.Lib
def cK (r:TZ):VV:=.lst (aI r) .no
theorem ig {G:Gh}{v:Value}{r:TZ}{o:Own}(h:R G v (.lst (aI r) o)) :
  ∃ba b off c,v=.slice ba r.length c/\(r.length=0\/ba=some ⟨b,off,none⟩)/\∀(j:Nat) (x:Int),r[j]?=some x->G.K b (off+j)=some (.int .i64 x):=by
 generalize hl:aI r=l at h
 cases h with
 |emp a cap o ho=>
  have:r=[]:=by cases r with
   |nil=>rfl
   |cons a t=>cases hl
  subst this
  exact⟨a,0,0,cap,rfl,.inl rfl,fun j x hx=>by simp at hx⟩
 |lst b off len cap sz xs o f hl' hc hz h1 hK hR ho=>
  subst hl
  rw[dW]at hl'
  subst hl'
  refine⟨_,b,off,cap,rfl,.inr rfl,fun j x hx=>?_⟩
  have hj:=(x_.1 hx).1
  have hsz:sz=1:=by
   have:=hz [VV.int .i64 x] (y_ (ej hx))
   simpa using this.symm
  subst hsz
  have h2:=hK j 0 hj (by omega)
  have h3:=hR j 0 [VV.int .i64 x] (.int .i64 x) (ej hx) rfl
  cases h4:f j 0 with
  |int k n=>rw[h4]at h3 h2;cases h3;simpa using h2
  |_=>rw[h4]at h3;cases h3
def dO (l:TX):TX:=l.foldl putRow []
theorem nt:∀(l m:TX),Rising m->Rising (l.foldl putRow m)/\∀r,r∈l.foldl putRow m↔r∈m\/r∈l
 |[],m,h=>⟨h,fun r=>by simp⟩
 |a::l,m,h=>by
  have ih:=nt l (putRow m a) (fD h)
  refine⟨ih.1,fun r=>?_⟩
  rw[List.foldl_cons,ih.2 r,gz,AT]
  grind
theorem eB (l:TX):Rising (dO l):=(nt l [] Rising.nil).1
theorem sortR_mem {l:TX}{r:TZ}:r∈dO l↔r∈l:=by rw[dO,(nt l [] Rising.nil).2 r];simp
theorem nr {l m:TX}(h:Rising m)(hm:∀r,r∈m↔r∈l):m=dO l:=pW h (eB l) fun r=>(hm r).trans sortR_mem.symm
section
variable {s : St}
end
end Go.Proofs.YtohnaepcgnbaiaaGreatDoor
namespace Go.Proofs.YtohnaepcgnbaiaaGreatDoor
open Go.RowKit Go.Lib
theorem Sim.know {w0 w w':World}{G:Gh}{s:St}(h:Sim w0 G w s)(hb:Below w.heap.size w w')(b:Nat)(hlt:w.heap.size<=b)(F:Nat->Option Value)(hF:∀i v,F i=some v->w'.cell? ⟨b,i,none⟩=some v) :
  ∃G',G.le G'/\Sim w0 G' w' s/\∀i v,F i=some v->G'.K b i=some v:=by
 have hn:∀i,G.K b i=none:=fun i=>by
  cases hk:G.K b i with
  |none=>rfl
  |some v=>exact absurd (h.K_lt hk) (by omega)
 have hle:G.le ⟨fun b' i=>if b'=b then F i else G.K b' i,G.cap⟩:=⟨fun b' i v hv=>by
  by_cases e:b'=b
  ·subst e;rw[hn i]at hv;cases hv
  ·simp only[if_neg e];exact hv,fun _ _ hc=>hc⟩
 have h1:=h.world hb
 refine⟨_,hle,⟨h1.below,fun b' i v hv=>?_,h1.cap,fun b'=>?_,h.gl,?_⟩,fun i v hv=>by simp only[if_true];exact hv⟩
 ·by_cases e:b'=b
  ·subst e
   simp only[if_true]at hv
   exact hF i v hv
  ·simp only[if_neg e]at hv
   exact h1.K b' i v hv
 ·by_cases e:b'=b
  ·subst e
   have hf:s b'=.free:=by
    by_cases hc:s b'=.free
    ·exact hc
    ·exact absurd (h.lt hc) (by omega)
   rw[hf]
   trivial
  ·exact(h1.ok b').keep rfl hle fun i=>if_neg e
 ·exact h.rows.keep' hle hb.size (fun g hl hg=>⟨hg,hb.block g hl,fun i=>if_neg (by omega)⟩) fun x T xs rs hx=>⟨hx,hb.block x (h.lt (by rw[hx];simp))⟩
theorem d7 {G:Gh}{vs:Th}{x:VV}(h:RL G vs [x]):∃a,vs=#[a]/\R G a x:=by
 obtain⟨hs,hr⟩:=h
 obtain⟨l⟩:=vs
 match l,hs,hr with
 |[a],_,hr=>exact⟨a,rfl,hr 0 a x rfl rfl⟩
theorem yi {G:Gh}{r:TZ}{g cap:Nat}(hc:r.length<=cap)(h:∀(i:Nat) (x:Int),r[i]?=some x->G.K g i=some (.int .i64 x)):R G (.slice (some ⟨g,0,none⟩) r.length cap) (cK r):=by
 refine .lst g 0 r.length cap 1 (aI r) .no (fun i _=>.int .i64 ((r[i]?).getD 0)) dW hc ?_ ?_ ?_ ?_ (.inl rfl)
 ·intro x hx
  obtain⟨y,_,rfl⟩:=A_.1 hx
  rfl
 ·intro x hx y hy
  obtain⟨z,_,rfl⟩:=A_.1 hx
  rw[a_]at hy
  subst hy
  rfl
 ·intro i j hi hj
  have:j=0:=by omega
  subst this
  rw[m_ hi]
  simpa using h i r[i] (m_ hi)
 ·intro i j x y hx hy
  simp only[aI,n_]at hx
  obtain⟨z,hz,rfl⟩:=Option.map_eq_some_iff.1 hx
  have hj:j=0:=by
   have:=(x_.1 hy).1
   simp at this;exact this
  subst hj
  simp at hy
  subst hy
  simp only[hz,Option.getD_some]
  exact .int .i64 z
theorem fU {w0 w w':World}{G:Gh}{s:St}{r:TZ}{v':Value}(hS:Sim w0 G w s)(ho:w'.ownsRow w.heap.size 3 1 v' r.length (r.map (Value.int .i64)))(hb:Below w.heap.size w w') :
  ∃G',G.le G'/\Sim w0 G' w' s/\R G' v' (cK r):=by
 obtain⟨hl,ho⟩:=ho
 rcases ho with ⟨rfl,h0⟩|⟨g,cap,cur,rfl,hge,hh,hcap,hm,hsz,hcur⟩
 ·have:r=[]:=l_ h0
  subst this
  exact⟨G,Gh.le.refl G,hS.world hb,.emp none 0 .no (.inl rfl)⟩
 ·obtain⟨G',h1,h2,h3⟩:=hS.know hb g hge (fun i=>if i<r.length then cur[i]? else none) fun i v hv=>by
   split at hv
   ·simp only[World.cell?,hh];exact hv
   ·cases hv
  refine⟨G',h1,h2,yi hcap fun i x hi=>h3 i _ ?_⟩
  have hil:=(x_.1 hi).1
  simp only[if_pos hil]
  have h4:(cur.toList.take (r.length * 1))[i]?=some (.int .i64 x):=by rw[hcur,n_,hi];rfl
  rw[List.getElem?_take_of_lt (by omega),Array.getElem?_toList]at h4
  exact h4
theorem FH (r:TZ)(o:Own)(s:St)(hl:r.length * 8<=140737488355328):SRet Tryz.prog 34 [.lst (aI r) o] s (cK r) s:=by
 intro w0 G w vs hS hA
 obtain⟨v,rfl,hr⟩:=d7 hA
 obtain⟨ba,b,off,c,rfl,g1,k1⟩:=ig hr
 rcases g1 with h0|rfl
 ·have:r=[]:=l_ h0
  subst this
  cases ba with
  |none=>
   refine(Tryz.slices_Clone_int_nil 0 c w).mono ?_
   rintro e w' ⟨rfl,rfl⟩
   exact⟨G,s,.ret (cK []),Gh.le.refl G,hS,R.emp none 0 .no (.inl rfl),rfl,rfl⟩
  |some a=>
   refine(Tryz.slices_Clone_int_zero a c w).mono ?_
   rintro e w' ⟨v',rfl,ho,_,hb⟩
   obtain⟨G',h1,h2,h3⟩:=fU (r:=[]) hS ho hb
   exact⟨G',s,.ret (cK []),h1,h2,h3,rfl,rfl⟩
 ·refine(Tryz.slices_Clone_int b off r.length c r w (Nat.le_refl _) hl fun j hj=>hS.K _ _ _ (k1 j _ (by rw[m_ hj,List.getD_eq_getElem?_getD,m_ hj];rfl))).mono ?_
  rintro e w' ⟨v',rfl,ho,_,hb⟩
  rw[b_]at ho
  obtain⟨G',h1,h2,h3⟩:=fU hS ho hb
  exact⟨G',s,.ret (cK r),h1,h2,h3,rfl,rfl⟩
theorem Cv (r:TZ)(b:Nat)(T:TypeId)(s:St)(hs:s b=.obj T (aM r))(hl:r.length * 8<=140737488355328):SRet Tryz.prog 34 [.msl b r.length] s (cK r) s:=by
 intro w0 G w vs hS hA
 obtain⟨v,rfl,hr⟩:=d7 hA
 cases hr with
 |msl=>
 have hok:=hS.ok b
 rw[hs]at hok
 obtain⟨_,_,c,hh,hsz,hx⟩:=hok
 refine(Tryz.slices_Clone_int b 0 r.length r.length r w (Nat.le_refl _) hl fun j hj=>?_).mono ?_
 ·obtain⟨_,v,hv,hr⟩:=hx j (.int .i64 r[j]) (by simp[aM,m_ hj])
  simp only[World.cell?,hh,Nat.zero_add,hv,List.getD_eq_getElem?_getD,m_ hj,Option.getD_some]
  cases v with
  |int k n=>cases hr;rfl
  |_=>cases hr
 ·rintro e w' ⟨v',rfl,ho,_,hb⟩
  rw[b_]at ho
  obtain⟨G',h1,h2,h3⟩:=fU hS ho hb
  exact⟨G',s,.ret (cK r),h1,h2,h3,rfl,rfl⟩
end Go.Proofs.YtohnaepcgnbaiaaGreatDoor
namespace Go.Proofs.YtohnaepcgnbaiaaGreatDoor
open Go.RowKit Go.Lib Go.Sort
theorem E4 {α:Type}(ct:α->TZ):SWO (ltOf fun x y=>cn (ct x) (ct y)) where
 irrefl x:=by simp[ltOf,gd]
 trans x y z h1 h2:=by
  simp only[ltOf,decide_eq_true_eq]at *
  exact gH _ _ _ h1 h2
 ntrans x y z h1 h2:=by
  simp only[ltOf,decide_eq_false_iff_not]at *
  intro h3
  rcases Int.lt_or_le 0 (cn (ct x) (ct y))with h|h
  ·have:cn (ct y) (ct x)<0:=by rw[ir];omega
   exact h2 (gH _ _ _ this h3)
  ·have h0:cn (ct x) (ct y)=0:=by omega
   rw[mN h0]at h3
   exact h2 h3
theorem ya (enc:Nat->Value)(w:World)(g m:Nat)(dk:Array Nat)(os:Array Obj){b:Nat}(hb:b≠g)(hlt:b<w.heap.size):(sortWorld enc w g 0 m dk os).heap[b]?=w.heap[b]?:=by
 unfold sortWorld
 rw[heap_grow_old _ _ (by simp[putRow,mapBlock,Sort.ahead];exact hlt)]
 show (w.heap.modify g _)[b]?=_
 rw[Array.getElem?_modify,if_neg (Ne.symm hb)]
theorem yn {rows:TX}{d:TW}(hd:d.Perm (List.range rows.length)):(d.map fun i=>(rows[i]?).getD []).Perm rows:=by
 have h:=hd.map fun i=>(rows[i]?).getD []
 refine h.trans (List.Perm.of_eq ?_)
 apply List.ext_getElem
 ·simp
 ·intro i h1 h2
  simp[m_ h2]
theorem Mx (rows:TX)(g:Nat)(T:TypeId)(hn:rows.length<=140737488355328)(hnd:rows.Nodup)(hlen:∀r,r∈rows->r.length<=140737488355328)(s:St)(hs:s g=.row T 1 (rows.map cK)) :
  SRet Tryz.prog 70 [.mrw g rows.length,.fn 71 []] s (.tup []) (s.set g (.row T 1 ((dO rows).map cK))):=by
 intro w0 G w vs hS hA
 obtain⟨v1,v2,rfl,r1,r2⟩:=lz hA
 cases r1 with
 |mrw _ _ cap sz hq hc=>
 cases r2 with
 |fn f us xs hus hR=>
 obtain rfl:us=#[]:=Array.eq_empty_of_size_eq_zero (by simpa using hus)
 have hok:=hS.ok g
 rw[hs]at hok
 obtain⟨hB,hnK,c,cap',hh,hq',hcs,hl,hm,hx⟩:=hok
 rw[z_]at hl
 have hblk:g<w.heap.size:=hS.lt (by rw[hs];simp)
 have hcell:∀(i:Nat) (r:TZ),rows[i]?=some r->∃v,c[i]?=some v/\R G v (cK r):=fun i r hr=>(hx i (cK r) (by simp[hr])).2
 let enc:Nat->Value:=fun i=>if i<rows.length then(c[i]?).getD (.slice none 0 0)else .slice none 0 0
 let ct:Nat->TZ:=fun i=>(rows[i]?).getD []
 have henc:∀i,∃v,R G v (cK (ct i))/\enc i=v/\(i<rows.length->c[i]?=some v):=fun i=>by
  by_cases hi:i<rows.length
  ·obtain⟨v,h1,h2⟩:=hcell i _ (m_ hi)
   exact⟨v,by simp only[ct,m_ hi,Option.getD_some];exact h2,by simp only[enc,if_pos hi,h1,Option.getD_some],fun _=>h1⟩
  ·refine⟨.slice none 0 0,?_,by simp only[enc,if_neg hi],fun h=>absurd h hi⟩
   simp only[ct,t_ (Nat.le_of_not_lt hi),Option.getD_none]
   exact .emp none 0 .no (.inl rfl)
 have hone:OneCell enc:=fun i=>by
  obtain⟨v,h1,h2,_⟩:=henc i
  rw[h2,h1.one]
  rfl
 have hctl:∀i,(ct i).length<=140737488355328:=fun i=>by
  cases hi:rows[i]? with
  |none=>simp[ct,hi]
  |some r=>simp only[ct,hi,Option.getD_some];exact hlen r (y_ hi)
 have hcmp:CmpReads Tryz.prog 71 #[] enc (fun x y=>cn (ct x) (ct y)) g 0 (Array.range rows.length).size w:=by
  intro m os dk hdk x y
  obtain⟨v1,k1,e1,_⟩:=henc x
  obtain⟨v2,k2,e2,_⟩:=henc y
  obtain⟨ba,b1,f1,c1,hv1,g1,q1⟩:=ig k1
  obtain⟨bb,b2,f2,c2,hv2,g2,q2⟩:=ig k2
  rw[e1,e2,hv1,hv2]
  have hk:∀(b i:Nat) (v:Value),G.K b i=some v->(sortWorld enc w g 0 m dk os).cell? ⟨b,i,none⟩=some v:=fun b i v h=>by
   have hne:b≠g:=by rintro rfl;rw[hnK]at h;cases h
   exact(World.cell?_of_block (w:=w) (ya enc w g m dk os hne (hS.K_lt h))).trans (hS.K _ _ _ h)
  refine(E5 ba bb b1 f1 c1 b2 f2 c2 (ct x) (ct y) _ (hctl x) (hctl y) g1 g2 (fun j z hz=>hk _ _ _ (q1 j z hz)) fun j z hz=>hk _ _ _ (q2 j z hz)).mono ?_
  rintro e w' ⟨rfl,rfl⟩
  exact⟨rfl,0,rfl⟩
 have hH:Holds enc w g 0 (Array.range rows.length):=fun j hj=>by
  rw[Array.size_range]at hj
  obtain⟨v,h1,h2,h3⟩:=henc j
  have hj3:=h3 hj
  constructor
  ·rw[getElem!_pos _ j (by simpa using hj),Array.getElem_range,h2]
   simp only[World.cell?,Nat.zero_add,hh]
   exact hj3
  ·simp[World.frozen?,hh]
 have hsz:(Array.range rows.length).size=rows.length:=Array.size_range
 have hmain:=Tryz.slices_SortFunc enc hone (fun x y=>cn (ct x) (ct y)) (E4 ct) 71 #[] g 0 cap (Array.range rows.length) w P4 hcmp.lays hH hblk (by rw[hsz];omega)
 rw[hsz]at hmain
 refine hmain.mono ?_
 rintro e w' ⟨rfl,d',n,os,hp,hsrt,rfl⟩
 obtain⟨hp1,hp2,hp3⟩:=hp
 rw[hsz]at hp1
 have hex:(d'.extract 0 rows.length)=d':=by rw[<- hp1];exact Array.extract_size ..
 have hex2:((Array.range rows.length).extract 0 rows.length)=Array.range rows.length:=by have h:=Array.extract_size (xs:=Array.range rows.length);rw[hsz]at h;exact h
 rw[hex,hex2,Array.toList_range]at hp3
 have hperm:(d'.toList.map ct).Perm rows:=yn hp3
 have hdl:d'.toList.length=rows.length:=by simpa using hp1
 have hR':d'.toList.map ct=dO rows:=by
  refine nr ?_ fun r=>hperm.mem_iff
  have hnd':(d'.toList.map ct).Nodup:=hperm.nodup_iff.2 hnd
  unfold Rising
  rw[List.pairwise_iff_getElem]
  intro i j hi hj hij
  have hi':i<d'.size:=by simpa using hi
  have hj':j<d'.size:=by simpa using hj
  have h1:=hsrt i j (Nat.zero_le _) hij (by omega)
  rw[getElem!_pos d' i hi',getElem!_pos d' j hj']at h1
  simp only[ltOf,decide_eq_false_iff_not]at h1
  have hne:=(List.pairwise_iff_getElem.1 hnd') i j hi hj hij
  simp only[List.getElem_map,Array.getElem_toList]at hne ⊢
  have h2:cn (ct d'[i]) (ct d'[j])≠0:=fun e=>hne (mN e)
  rw[ir]at h1
  omega
 have hS1:Sim w0 G (Sort.ahead w n) s:=hS.world ⟨rfl,rfl,rfl,Nat.le_refl _,fun _ _=>rfl⟩
 have hmod:∀k,(Sort.putRow enc (Sort.ahead w n) g 0 d').heap[k]?=if g=k then(w.heap[k]?).map (onCells (putCells enc 0 d'))else w.heap[k]?:=fun k=>Array.getElem?_modify ..
 have hS2:=hS1.set_row hs (Sort.putRow enc (Sort.ahead w n) g 0 d') c (putCells enc 0 d' c) (ys:=(dO rows).map cK) hh
  ⟨rfl,rfl,rfl,by simp[Sort.putRow,mapBlock],fun k hk=>by rw[hmod,if_neg (by omega)];rfl⟩ (by simp[Sort.putRow,mapBlock]) (by rw[hmod,if_pos rfl,hh];rfl) (fun k hk=>by rw[hmod,if_neg (Ne.symm hk)];rfl)
  (by simp[putCells]) (by rw[<- hR',z_,z_,hdl,hcs];exact hl) (fun i x hi=>by
   rw[<- hR',List.map_map,n_]at hi
   obtain⟨k,hk,rfl⟩:=Option.map_eq_some_iff.1 hi
   have hil:=(x_.1 hk).1
   have hkl:k<rows.length:=by
    have:=hp3.mem_iff.1 (y_ hk)
    simpa using this
   obtain⟨v,h1,h2,h3⟩:=henc k
   refine⟨rfl,v,?_,h1⟩
   have hid:i<d'.size:=by simpa using hil
   have hdk:d'[i]=k:=by
    have:=m_ hil
    rw[hk]at this
    injection this with this
    rw[this,Array.getElem_toList]
   have hic:i<c.size:=by rw[hcs];omega
   simp only[putCells,Array.getElem?_mapIdx,Array.getElem?_eq_getElem hic,Option.map_some,Nat.zero_le,Nat.zero_add,true_and,hid,if_true,Nat.sub_zero]
   rw[getElem!_pos d' i hid,hdk,h2])
 refine⟨G,_,.ret (.tup []),Gh.le.refl G,hS2.world ⟨rfl,rfl,rfl,?_,fun k hk=>?_⟩,.tup #[] [] rfl (fun j v y h=>by simp at h),rfl,rfl⟩
 ·simp[sortWorld,grow]
 ·exact heap_grow_old _ _ hk
theorem Ff (s:St)(xs:Tb):SRet Tryz.prog 70 [.raw (.slice none 0 0),.fn 71 xs] s (.tup []) s:=by
 intro w0 G w vs hS hA
 obtain⟨v1,v2,rfl,r1,r2⟩:=lz hA
 cases r1 with
 |raw=>
 refine(Tryz.slices_SortFunc_none (α:=Nat) none 0 v2 w).mono ?_
 rintro e w' ⟨rfl,rfl⟩
 exact⟨G,s,.ret (.tup []),Gh.le.refl G,hS,R.tup #[] [] rfl (fun j v y h=>by simp at h),rfl,rfl⟩
def cR (l:TZ):TZ:=l.mergeSort fun x y=>decide (x<=y)
theorem nJ (l:TZ):(cR l).Perm l:=List.mergeSort_perm _ _
theorem eJ (l:TZ):(cR l).length=l.length:=(nJ l).length_eq
theorem zS (l:TZ):(cR l).Pairwise (·<=·):=by
 have:=List.pairwise_mergeSort (le:=fun x y:Int=>decide (x<=y)) (fun a b c h1 h2=>by simp at *;omega) (fun a b=>by simp;omega) l
 exact this.imp fun h=>by simpa using h
theorem xX (s:St)(g:Nat)(T:TypeId)(zs:TZ)(hn:zs.length<=100000000)(hs:s g=.row T 1 (aM zs)) :
  SRet Tryz.prog 82 [.mrw g zs.length] s (.tup []) (s.set g (.row T 1 (aM (cR zs)))):=by
 intro w0 G w vs hS hA
 obtain⟨v1,rfl,r1⟩:=d7 hA
 cases r1 with
 |mrw _ _ cap sz hq hc=>
 have hok:=hS.ok g
 rw[hs]at hok
 obtain⟨hB,hnK,c,cap',hh,hq',hcs,hl,hm,hx⟩:=hok
 have hil:(aM zs).length=zs.length:=by simp[aM]
 rw[hil]at hl
 have hblk:g<w.heap.size:=hS.lt (by rw[hs];simp)
 have hcell:∀(i:Nat) (z:Int),zs[i]?=some z->c[i]?=some (.int .i64 z):=fun i z hz=>by
  obtain⟨_,v,h1,h2⟩:=hx i (.int .i64 z) (by simp[aM,hz])
  cases h2
  exact h1
 have hH:Holds (Value.int .i64) w g 0 zs.toArray:=fun j hj=>by
  rw[List.size_toArray]at hj
  have h1:=hcell j _ (m_ hj)
  constructor
  ·rw[getElem!_pos _ j (by simpa using hj)]
   simp only[World.cell?,Nat.zero_add,hh]
   simpa using h1
  ·simp[World.frozen?,hh]
 refine(Tryz.slices_Sort_int g 0 cap zs w hH hblk (by omega)).mono ?_
 rintro e w' ⟨rfl,n,os,rfl⟩
 have hS1:Sim w0 G (Sort.ahead w n) s:=hS.world ⟨rfl,rfl,rfl,Nat.le_refl _,fun _ _=>rfl⟩
 obtain⟨d',hd'⟩:∃d',d'=(zs.mergeSort fun x y=>decide (x<=y)).toArray:=⟨_,rfl⟩
 have hdl:d'.size=zs.length:=by rw[hd',List.size_toArray];exact eJ zs
 rw[<- hd']
 have hmod:∀k,(Sort.putRow (Value.int .i64) (Sort.ahead w n) g 0 d').heap[k]?=if g=k then(w.heap[k]?).map (onCells (putCells (Value.int .i64) 0 d'))else w.heap[k]?:=fun k=>Array.getElem?_modify ..
 have hS2:=hS1.set_row hs (Sort.putRow (Value.int .i64) (Sort.ahead w n) g 0 d') c (putCells (Value.int .i64) 0 d' c) (ys:=aM (cR zs)) hh
  ⟨rfl,rfl,rfl,by simp[Sort.putRow,mapBlock],fun k hk=>by rw[hmod,if_neg (by omega)];rfl⟩ (by simp[Sort.putRow,mapBlock]) (by rw[hmod,if_pos rfl,hh];rfl) (fun k hk=>by rw[hmod,if_neg (Ne.symm hk)];rfl)
  (by simp[putCells]) (by simp only[aM,z_,eJ];rw[hcs];exact hl) (fun i x hi=>by
   simp only[aM,n_]at hi
   obtain⟨k,hk,rfl⟩:=Option.map_eq_some_iff.1 hi
   have hil:=(x_.1 hk).1
   rw[eJ]at hil
   refine⟨rfl,.int .i64 k,?_,.int _ _⟩
   have hid:i<d'.size:=by omega
   have hdk:d'[i]=k:=by
    have h3:d'.toList[i]?=some k:=by rw[hd'];exact hk
    rw[Array.getElem?_toList,Array.getElem?_eq_getElem hid]at h3
    injection h3
   have hic:i<c.size:=by rw[hcs];omega
   simp only[putCells,Array.getElem?_mapIdx,Array.getElem?_eq_getElem hic,Option.map_some,Nat.zero_le,Nat.zero_add,true_and,hid,if_true,Nat.sub_zero]
   rw[getElem!_pos d' i hid,hdk])
 refine⟨G,_,.ret (.tup []),Gh.le.refl G,hS2.world ⟨rfl,rfl,rfl,?_,fun k hk=>?_⟩,.tup #[] [] rfl (fun j v y h=>by simp at h),rfl,rfl⟩
 ·simp[grow]
 ·exact heap_grow_old _ _ hk
theorem tV (s:St):SRet Tryz.prog 82 [.raw (.slice none 0 0)] s (.tup []) s:=by
 intro w0 G w vs hS hA
 obtain⟨v1,rfl,r1⟩:=d7 hA
 cases r1 with
 |raw=>
 refine(Tryz.slices_Sort_int_none none 0 w).mono ?_
 rintro e w' ⟨rfl,rfl⟩
 exact⟨G,s,.ret (.tup []),Gh.le.refl G,hS,R.tup #[] [] rfl (fun j v y h=>by simp at h),rfl,rfl⟩
end Go.Proofs.YtohnaepcgnbaiaaGreatDoor
namespace Go.Proofs.YtohnaepcgnbaiaaGreatDoor
open Go.RowKit
def G9 (k:IntKind)(q r:Int):Int:=q.fdiv (2 ^ (min r.toNat k.bits))
def xj (n k:Int):Int:=tO .u64 (IntKind.u64.wrap (tO .u64 n (IntKind.u64.wrap k) * 11400714819323198485)) (G9 .u64 (IntKind.u64.wrap (tO .u64 n (IntKind.u64.wrap k) * 11400714819323198485)) 29)
def oI (a b c:Int):Int:=xj (xj (xj 0 a) b) c
def jd (n:Nat)(a b c:Int):Int:=IntKind.i64.wrap (jv .u64 (oI a b c) (IntKind.u64.wrap (IntKind.i64.wrap ((n:Int) - 1))))
attribute [-go_sem] GA GB bG bJ mD
def jp (a b c:Int):VV:=.agg [.int .i64 a,.int .i64 b,.int .i64 c]
theorem Cn (s:St)(p g n:Nat)(a b c l u:Int)(h:s p=.obj 161 [.mrw g n,.int .i64 l,.int .i64 u]) :
  SRet Tryz.prog 175 [.ptr p 0,jp a b c] s (.int .i64 (jd n a b c)) s:=by
 have hpf:s p≠.free:=by rw[h];simp
 obtain⟨fx,hx,ex⟩:∃f:Int->Int->Int,(∀q r,bF .xor .u64 q r=some (.int .u64 (f q r)))/\f=tO .u64:=⟨_,fun _ _=>rfl,rfl⟩
 obtain⟨fa,ha,ea⟩:∃f:Int->Int->Int,(∀q r,bF .and .u64 q r=some (.int .u64 (f q r)))/\f=jv .u64:=⟨_,fun _ _=>rfl,rfl⟩
 obtain⟨fm,hm,em⟩:∃f:Int->Int,(∀q,bF .mul .u64 q 11400714819323198485=some (.int .u64 (f q)))/\f=fun q=>IntKind.u64.wrap (q * 11400714819323198485):=⟨_,fun _=>rfl,rfl⟩
 obtain⟨fs,hs,es⟩:∃f:Int->Int,(∀q,bF .shr .u64 q 29=some (.int .u64 (f q)))/\f=fun q=>G9 .u64 q 29:=⟨_,fun q=>by simp only[bG,G9];rfl,rfl⟩
 obtain⟨fw,hw,ew⟩:∃f:Int->Int,(∀q s,er Tryz.prog 3 169 (.int .i64 q) s=some (.int .u64 (f q)))/\f=fun q=>IntKind.u64.wrap q:=⟨_,fun q s=>by simp only[mD,qi3,Az],rfl⟩
 obtain⟨fi,hi,ei⟩:∃f:Int->Int,(∀q s,er Tryz.prog 169 3 (.int .u64 q) s=some (.int .i64 (f q)))/\f=fun q=>IntKind.i64.wrap q:=⟨_,fun q s=>by simp only[mD,qi3,Az],rfl⟩
 have hE:jd n a b c=fi (fa (fx (fm (fx (fx (fm (fx (fx (fm (fx 0 (fw a))) (fs (fm (fx 0 (fw a))))) (fw b))) (fs (fm (fx (fx (fm (fx 0 (fw a))) (fs (fm (fx 0 (fw a))))) (fw b))))) (fw c))) (fs (fm (fx (fx (fm (fx (fx (fm (fx 0 (fw a))) (fs (fm (fx 0 (fw a))))) (fw b))) (fs (fm (fx (fx (fm (fx 0 (fw a))) (fs (fm (fx 0 (fw a))))) (fw b))))) (fw c))))) (fw (IntKind.i64.wrap ((n:Int) - 1)))):=by
  subst ex ea em es ew ei
  simp only[jd,oI,xj]
 rw[hE]
 clear hE ex ea em es ew ei
 unfold jp
 refine am Tryz.func175 rfl Tryz.ntmps175 rfl fun Q hQ hQe=>?_
 (repeat'(first|refine Ctl ?_|((with_reducible refine k_ hK ?_);clear hK hE K E)|((first|(with_reducible refine ab fun K E hK hE=>?_)|((with_reducible refine au (fun b hb=>?_));(try(obtain⟨_,_⟩:=nef hb hpf))))<;>(try simp(disch:=assumption) only[go_sem,seval,hx,ha,hm,hs,hw,hi, *]))))
 refine kJ 4 (cD 3 ?_)
 (repeat'(first|refine Ctl ?_|((with_reducible refine k_ hK ?_);clear hK hE K E)|((with_reducible refine bZ (fun h=>?_) (fun h=>?_))<;>(try(exfalso;assumption)))|(((with_reducible refine ab fun K E hK hE=>?_))<;>(try simp(disch:=omega) only[go_sem,seval,hx,ha,hm,hs,hw,hi, *]))))
 refine cD 2 ?_
 (repeat'(first|refine Ctl ?_|((with_reducible refine k_ hK ?_);clear hK hE K E)|((with_reducible refine bZ (fun h=>?_) (fun h=>?_))<;>(try(exfalso;assumption)))|(((with_reducible refine ab fun K E hK hE=>?_))<;>(try simp(disch:=omega) only[go_sem,seval,hx,ha,hm,hs,hw,hi, *]))))
 refine cD 1 ?_
 (repeat'(first|refine Ctl ?_|((with_reducible refine k_ hK ?_);clear hK hE K E)|((with_reducible refine bZ (fun h=>?_) (fun h=>?_))<;>(try(exfalso;assumption)))|(((with_reducible refine ab fun K E hK hE=>?_))<;>(try simp(disch:=omega) only[go_sem,seval,hx,ha,hm,hs,hw,hi, *]))))
 refine cD 0 ?_
 (repeat'(first|refine Ctl ?_|((with_reducible refine k_ hK ?_);clear hK hE K E)|((with_reducible refine bZ (fun h=>?_) (fun h=>?_))<;>(try(exfalso;assumption)))|(((with_reducible refine ab fun K E hK hE=>?_))<;>(try simp(disch:=omega) only[go_sem,seval,hx,ha,hm,hs,hw,hi, *]))))
 all_goals(refine aq Ae hQ ?_)
 all_goals(refine⟨_,_,Wk.of_eq ?_,?_,rfl,rfl⟩)
 all_goals first|with_reducible rfl|(exact bK)
end Go.Proofs.YtohnaepcgnbaiaaGreatDoor
namespace Go.Proofs.YtohnaepcgnbaiaaGreatDoor
open Go.RowKit
def plC:Pl->Tb
 |.em=>[.int .i64 0,.int .i64 0,.int .i64 0,.int .i64 0,.int .i64 0]
 |.fl k v=>[.int .i64 1,.int .i64 k.1,.int .i64 k.2.1,.int .i64 k.2.2,.int .i64 v]
def ci (ps:List Pl):Tb:=(ps.map plC).flatten
theorem gA (p:Pl):(plC p).length=5:=by cases p<;>rfl
theorem ij:∀(ps:List Pl),(ci ps).length=ps.length * 5
 |[]=>rfl
 |p::ps=>by
  have:=ij ps
  simp only[ci]at this
  simp only[ci,List.map_cons,List.flatten_cons,p_,gA,this,List.length_cons]
  omega
theorem jK:∀{ps:List Pl} {k:Nat} {p:Pl},ps[k]?=some p->((ci ps).drop (k * 5)).take 5=plC p
 |[],k,p,h=>by simp at h
 |q::ps,0,p,h=>by
  simp at h
  subst h
  simp only[ci,List.map_cons,List.flatten_cons,Nat.zero_mul,List.drop_zero]
  rw[List.take_left' (gA q)]
 |q::ps,k+1,p,h=>by
  have ih:=jK (ps:=ps) (k:=k) (p:=p) (by simpa using h)
  simp only[ci]at ih
  simp only[ci,List.map_cons,List.flatten_cons]
  rw[show (k+1) * 5=(plC q).length+k * 5 by rw[gA];omega,List.drop_append,List.drop_eq_nil_of_le (by omega),Nat.add_sub_cancel_left,List.nil_append,ih]
def cj (n:Nat)(key:K3):Nat:=(jd n key.1 key.2.1 key.2.2).toNat
theorem yW (x:Int)(j:Nat)(hj:j<=62):jv .u64 x (2 ^ j - 1)=x % 2 ^ j:=by
 have hp:(2:Int) ^ j=((2 ^ j:Nat):Int):=by simp
 have hle:2 ^ j<=2 ^ 62:=Nat.pow_le_pow_right (by omega) hj
 have hpos:0<2 ^ j:=Nat.pow_pos (by omega)
 have h1:=kC x j hj
 have h3:=Int.emod_lt_of_pos x (show (0:Int)<2 ^ j by omega)
 have h4:=Int.emod_nonneg x (show (2:Int) ^ j≠0 by omega)
 unfold jv at h1 ⊢
 have e:(BitVec.ofInt IntKind.u64.bits x &&& BitVec.ofInt IntKind.u64.bits (2 ^ j - 1)).toNat=(BitVec.ofInt IntKind.i64.bits x &&& BitVec.ofInt IntKind.i64.bits (2 ^ j - 1)).toNat:=rfl
 rw[e]
 generalize (BitVec.ofInt IntKind.i64.bits x &&& BitVec.ofInt IntKind.i64.bits (2 ^ j - 1))=y at h1
 have hy:=y.isLt
 generalize y.toNat=z at h1 hy
 have hb:2 ^ IntKind.i64.bits=18446744073709551616:=rfl
 rw[hb]at hy
 simp only[IntKind.wrap,IntKind.bits,IntKind.signed]at h1 ⊢
 simp at h1 ⊢
 generalize x % 2 ^ j=w at *
 generalize (2:Int) ^ j=q at *
 split at h1<;>omega
theorem pR (j:Nat)(hj:j<=40)(a b c:Int):jd (2 ^ j) a b c=((cj (2 ^ j) (a,b,c):Nat):Int)/\cj (2 ^ j) (a,b,c)<2 ^ j:=by
 have hp:(2:Int) ^ j=((2 ^ j:Nat):Int):=by simp
 have hle:2 ^ j<=2 ^ 40:=Nat.pow_le_pow_right (by omega) hj
 have hpos:0<2 ^ j:=Nat.pow_pos (by omega)
 have e1:IntKind.i64.wrap (((2 ^ j:Nat):Int) - 1)=2 ^ j - 1:=by rw[bT (by omega) (by omega),hp]
 have e2:IntKind.u64.wrap ((2:Int) ^ j - 1)=2 ^ j - 1:=by
  rw[hp]
  generalize 2 ^ j=q at *
  simp only[IntKind.wrap,IntKind.bits,IntKind.signed]
  simp
  omega
 have h:jd (2 ^ j) a b c=oI a b c % 2 ^ j:=by
  unfold jd
  rw[e1,e2,yW _ _ (by omega)]
  have h3:=Int.emod_lt_of_pos (oI a b c) (show (0:Int)<2 ^ j by omega)
  have h4:=Int.emod_nonneg (oI a b c) (show (2:Int) ^ j≠0 by omega)
  exact bT (by omega) (by omega)
 have h3:=Int.emod_lt_of_pos (oI a b c) (show (0:Int)<2 ^ j by omega)
 have h4:=Int.emod_nonneg (oI a b c) (show (2:Int) ^ j≠0 by omega)
 unfold cj
 simp only[h]
 omega
theorem EC (j k:Nat)(hj:j<=40)(hk:k<2 ^ j):jv .i64 (IntKind.i64.wrap ((k:Int)+1)) (IntKind.i64.wrap (((2 ^ j:Nat):Int) - 1))=(((k+1) % 2 ^ j:Nat):Int):=by
 have hp:(2:Int) ^ j=((2 ^ j:Nat):Int):=by simp
 have hle:2 ^ j<=2 ^ 40:=Nat.pow_le_pow_right (by omega) hj
 have e1:IntKind.i64.wrap (((2 ^ j:Nat):Int) - 1)=2 ^ j - 1:=by rw[bT (by omega) (by omega),hp]
 rw[e1,kC _ _ (by omega),bT (by omega) (by omega),hp,Int.natCast_emod]
 rfl
theorem mC {ps:List Pl}{k:Nat}(h:k<ps.length):k * 5+5<=(ci ps).length:=by
 rw[ij]
 omega
theorem rP (s:St)(p g j r:Nat)(ps:List Pl)(ka kb kc l u:Int)(bo:Bool)(hj:ps.length=2 ^ j)(hj2:j<=40)(h:s p=.obj 161 [.mrw g ps.length,.int .i64 l,.int .i64 u])
  (hg:s g=.row 215 5 (ci ps)) (hf:dY ps (ka,kb,kc) ps.length (cj ps.length (ka,kb,kc))=some (r,bo)) :
  SRet Tryz.prog 145 [.ptr p 0,jp ka kb kc] s (.tup [.int .i64 r,.bool bo]) s:=by
 have hpf:s p≠.free:=by rw[h];simp
 have hgf:s g≠.free:=by rw[hg];simp
 have hpg:¬ p=g:=fun e=>by rw[e,hg]at h;cases h
 have hgp:¬ g=p:=fun e=>hpg e.symm
 have w1:=fun(t:St) (ht:t p=.obj 161 [.mrw g ps.length,.int .i64 l,.int .i64 u])=>Cn t p g ps.length ka kb kc l u ht
 have hlen:=ij ps
 obtain⟨hs1,hs2⟩:=pR j hj2 ka kb kc
 rw[<- hj]at hs1 hs2
 rw[hs1]at w1
 simp only[jp]at w1 ⊢
 generalize cj ps.length (ka,kb,kc)=k0 at *
 have hn:∃n,n=ps.length:=⟨_,rfl⟩
 obtain⟨n,hn⟩:=hn
 rw[<- hn]at h w1 hf hj hs2
 have hn40:n<=2 ^ 40:=hj ▸ Nat.pow_le_pow_right (by omega) hj2
 have HJ:=o_ hj
 have HN:=o_ hn
 clear hj hn
 refine am Tryz.func145 rfl Tryz.ntmps145 rfl fun Q hQ hQe=>?_
 (repeat'(first|refine Ctl ?_|((with_reducible refine k_ hK ?_);clear hK hE K E)|((first|(with_reducible first|refine ab fun K E hK hE=>?_|refine ae Mc (w1 _ ac) ?_)|((with_reducible refine au (fun b hb=>?_));(try(obtain⟨_,_⟩:=nef hb hpf;obtain⟨_,_⟩:=nef hb hgf))))<;>(try simp(disch:=assumption) only[go_sem,seval, *]))))
 refine bV (fun m env s'=>∃(k b3:Nat),k<n/\Hid (dY ps (ka,kb,kc) m k=some (r,bo))/\s'=s.set b3 (.obj 47 [.int .i64 ka,.int .i64 kb,.int .i64 kc])/\¬ b3=p/\¬ b3=g/\s b3=.free/\env 0=.ptr p 0/\env 3=.ptr b3 0/\env 6=.int .i64 (-1)/\env 7=.int .i64 k) n ?_ ?_
 ·exact⟨_,Fg.refl _,k0,_,‹_›,o_ hf,rfl,‹_›,‹_›,‹_›,ac,ac,ac,ac⟩
 ·rintro m env s' ⟨k,b3,hk,hf',rfl,h3p,h3g,h3f,e0,e3,e6,e7⟩
  have h3p':¬ p=b3:=fun e=>h3p e.symm
  have h3g':¬ g=b3:=fun e=>h3g e.symm
  have hn:=HN.out
  have hkl:ps[k]?=some (ps[k]'(hn ▸ hk)):=m_ _
  generalize ps[k]'(hn ▸ hk)=q at hkl
  have hat:=jK hkl
  have hin:=mC (hn ▸ hk)
  have hf2:=hf'.out
  clear hf' hn
  cases m with
  |zero=>simp[dY]at hf2
  |succ m=>
  simp only[dY,hkl]at hf2
  have hki:(0:Int)<=k:=Int.natCast_nonneg _
  cases q with
  |em=>
   simp only[plC]at hat
   simp only[Option.some.injEq,Prod.mk.injEq]at hf2
   obtain⟨rfl,rfl⟩:=hf2
   (repeat'(first|refine Ctl ?_|((with_reducible refine k_ hK ?_);clear hK hE K E)|((with_reducible refine bZ (fun h=>?_) (fun h=>?_))<;>(try(exfalso;assumption)))|((first|(with_reducible first|refine ab fun K E hK hE=>?_|refine d6 ?_)|((with_reducible refine au (fun b hb=>?_));(repeat(obtain⟨_,hb⟩:=hb));(try(obtain⟨_,_⟩:=nef hb hpf;obtain⟨_,_⟩:=nef hb hgf))))<;>(try simp(disch:=assumption) only[go_sem,seval,hat, *]))))
   all_goals(refine aq uy hQ ?_)
   all_goals(refine⟨_,_,Wk.of_eq ?_,?_,rfl,rfl⟩)
   all_goals first|rfl|(exact bK)
  |fl key' v=>
   obtain⟨ka',kb',kc'⟩:=key'
   simp only[plC]at hat
   simp only at hf2
   by_cases he:(ka',kb',kc')=(ka,kb,kc)
   ·rw[if_pos he]at hf2
    simp only[Option.some.injEq,Prod.mk.injEq]at hf2 he
    obtain⟨rfl,rfl⟩:=hf2
    obtain⟨rfl,rfl,rfl⟩:=he
    (repeat'(first|refine Ctl ?_|((with_reducible refine k_ hK ?_);clear hK hE K E)|((with_reducible refine bZ (fun h=>?_) (fun h=>?_))<;>(try(exfalso;assumption)))|((first|(with_reducible first|refine ab fun K E hK hE=>?_|refine d6 ?_)|((with_reducible refine au (fun b hb=>?_));(repeat(obtain⟨_,hb⟩:=hb));(try(obtain⟨_,_⟩:=nef hb hpf;obtain⟨_,_⟩:=nef hb hgf))))<;>(try simp(disch:=assumption) only[go_sem,seval,hat, *]))))
    all_goals(refine aq uy hQ ?_)
    all_goals(refine⟨_,_,Wk.of_eq ?_,?_,rfl,rfl⟩)
    all_goals first|rfl|(exact bK)
   ·rw[if_neg he,<- HN.out]at hf2
    have hd:(decide (ka'=ka) && (decide (kb'=kb) && decide (kc'=kc)))=false:=by
     simp only[Prod.mk.injEq]at he
     simp only[Bool.and_eq_false_iff,decide_eq_false_iff_not]
     by_cases h1:ka'=ka
     ·by_cases h2:kb'=kb
      ·exact .inr (.inr fun h3=>he ⟨h1,h2,h3⟩)
      ·exact .inr (.inl h2)
     ·exact .inl h1
    have hx:=EC j k hj2 (HJ.out ▸ hk)
    rw[<- HJ.out,bT (n:=(k:Int)+1) (by omega) (by omega),bT (n:=(n:Int) - 1) (by omega) (by omega)]at hx
    have hnx:(k+1) % n<n:=Nat.mod_lt _ (by omega)
    have hx2:=hx
    rw[show (k:Int)+1=((k+1:Nat):Int) from rfl]at hx2
    have HF:=o_ hf2
    clear hf2 he
    generalize (k+1) % n=k' at *
    (repeat'(first|refine Ctl ?_|((with_reducible refine k_ hK ?_);clear hK hE K E)|((with_reducible refine bZ (fun h=>?_) (fun h=>?_))<;>(try(exfalso;assumption)))|((first|(with_reducible first|refine ab fun K E hK hE=>?_|refine d6 ?_)|((with_reducible refine au (fun b hb=>?_));(repeat(obtain⟨_,hb⟩:=hb));(try(obtain⟨_,_⟩:=nef hb hpf;obtain⟨_,_⟩:=nef hb hgf))))<;>(try simp(disch:=omega) only[go_sem,seval,hat,hd,hx,hx2, *]))))
    all_goals exact⟨_,w_ _ (by rw[j_ _ _ (‹_›)];assumption),m,by omega,k',b3,hnx,HF,rfl,h3p,h3g,h3f,ac,ac,ac,ac⟩
section
variable {H : Type} {enc : TypeId × Value -> H} {P : Program} {w : World}
theorem Jz {t e:TypeId}{n fuel:Nat}{cs:List Value}{x:DataW H×List MemPlace}(G:Gh)(ht:P.underlying t=some (.array n e))(he:P.underlying e=some (.int .i64))(hc:P.cellsOf t=n)(hc1:P.cellsOf e=1)
  (h:DataW.trod enc P w 0 (fun _=>true) true fuel t cs=some x) :
  ∃l:TZ,l.length=n/\CellsR G cs (l.map (VV.int .i64))/\∀i,i∈l->-9223372036854775808<=i/\i<=9223372036854775807:=by
 obtain⟨xs,m,_,_,hl,hn,hel⟩:=DataW.trod_array ht h
 rw[hc]at hl
 have hh:∀j,j<n->∃k:Int,cs[j]?=some (.int .i64 k)/\-9223372036854775808<=k/\k<=9223372036854775807:=by
  intro j hj
  have h3:=hel j hj
  have hjc:j<cs.length:=by omega
  rw[hc1,Nat.mul_one,c_ hjc,List.take_succ_cons,List.take_zero,m_ (by omega)]at h3
  obtain⟨k,h4,_,h5⟩:=DataW.trod_int he h3
  rw[Lit.wf_int_iff]at h5
  simp only[List.cons.injEq,and_true]at h4
  exact⟨k,by rw[m_ hjc,h4],h5⟩
 have key:∀(cs:List Value),(∀v,v∈cs->∃k:Int,v=.int .i64 k/\-9223372036854775808<=k/\k<=9223372036854775807)->∃l:TZ,cs=l.map (Value.int .i64)/\∀i,i∈l->-9223372036854775808<=i/\i<=9223372036854775807:=by
  intro cs
  induction cs with
  |nil=>intro _;exact⟨[],rfl,fun i hi=>by cases hi⟩
  |cons v r ih=>
   intro h
   obtain⟨k,rfl,hk⟩:=h v (by simp)
   obtain⟨l,rfl,hl⟩:=ih fun v hv=>h v (by simp[hv])
   exact⟨k::l,rfl,fun i hi=>by
    rcases AT.1 hi with rfl|hi
    ·exact hk
    ·exact hl i hi⟩
 obtain⟨l,rfl,hb⟩:=key cs fun v hv=>by
  obtain⟨j,hj,e⟩:=List.mem_iff_getElem.1 hv
  obtain⟨k,h1,h2⟩:=hh j (by omega)
  rw[m_ hj,e]at h1
  exact⟨k,Option.some.inj h1,h2⟩
 refine⟨l,by simpa using hl,CellsR.of (by simp) fun j y hy=>?_,hb⟩
 rw[n_]at hy
 cases hj:l[j]? with
 |none=>rw[hj]at hy;simp at hy
 |some i=>
  rw[hj]at hy
  obtain rfl:=Option.some.inj hy
  exact⟨.int .i64 i,by rw[n_,hj];rfl,R.int .i64 i,rfl⟩
end
theorem Ls {l:TZ}(h:l.length=3):∃x y z,l=[x,y,z]:=by
 match l,h with|[x,y,z],_=>exact⟨x,y,z,rfl⟩
variable {H : Type} {enc : TypeId × Value -> H}
theorem pF {a:Assume}{C:Checked}{os:Os}{f:FuncId}{fn:Func}{s:ChangeSpec}{conds:List PathCond}{apart fresh handsOn again:Bool}{X:World->Th->Prop}
  (hX:∀(w w':World) (args:Th),w.heap=w'.heap->X w args->X w' args)
  (own:ownKnob C.prog.godebug=none) (started:os.Started) (noInit:C.prog.inits.idxOf? f=none) (hfn:C.prog.funcs[f]?=some fn)
  (witness:∃(w:World) (tape:Tape) (i:Input),w.os=os/\(w.forCall tape i).Shaped C.prog/\i.vars=[]/\Input.okWide C.prog (w.forCall tape i) .any w.heap.size f i /\
   ((s.pre enc C.prog fn conds apart (w.forCall tape i).memory i.args/\X (w.forCall tape i).memory i.args)/\sizedMet enc C.prog fn (OpenSpec.ofChange s) apart (w.forCall tape i).memory i.args)/\a.holds C.prog (lone (Frame.enter C.prog f i.args .normal) [] (w.forCall tape i)))
  (contract:∀(W:World) (base:Nat) (args:Th) (ds gs:List (DataW H)) (before:List MemPlace),W.ShapedOpen C.prog ->
   (∀(j:Nat) t v,fn.params[j]?=some t->args[j]?=some v->Value.okWide C.prog W .any base t v) ->
   DataW.Whole enc C.prog fn.params.toList s.vars apart W args.toList ds gs before ->
   conds.all (PathCond.test C.prog ⟨fn.params.toList,ds,s.plain.varTypes C.prog,gs⟩)=true ->
   (DataW.weightsEach C.prog (fn.params.toList++s.plain.varTypes C.prog) (ds++gs)).all (·<=reachBytes)=true->X W args ->
   a.holds C.prog (lone (Frame.enter C.prog f args .normal) [] W) ->
   Calls C.prog f args W fun e W'=>∃v,e=.returned v/\s.post enc C.prog fn apart fresh handsOn again W args v W') :
  ReturnsInHanded a C os f .any (fun w args=>(s.pre enc C.prog fn conds apart w args/\X w args)/\sizedMet enc C.prog fn (OpenSpec.ofChange s) apart w args) (s.post enc C.prog fn apart fresh handsOn again):=by
 refine returnsInHanded_of_calls own started noInit witness ?_
 intro w tape i _ hsh _ hok hpre hholds
 obtain⟨_,_,_,fn',hfn',_,_,_,_,hval⟩:=hok
 have e:fn'=fn:=Option.some.inj (hfn'.symm.trans hfn)
 subst e
 obtain⟨⟨⟨ds,gs,before,hw,hc⟩,hx⟩,hz⟩:=hpre
 have hw':=DataW.Whole.of_heap (w':=w.forCall tape i) (by rfl) hw
 refine(contract (w.forCall tape i) w.heap.size i.args ds gs before hsh hval hw' hc (hz.weights hw) (hX _ _ _ (by rfl) hx) hholds).mono fun e W' ⟨v,he,hp⟩=>?_
 subst he
 exact ChangeSpec.post_blind hp
theorem yB {W:World}(h:W.ShapedOpen Tryz.prog):GLB W:=
 cell_of_shapedOpen_int (t:=3) (zero:=#[.int .i64 0]) h (by decide +kernel) (by kernel_rfl) rfl (by kernel_rfl) (by kernel_rfl) Tryz.underlying3
end Go.Proofs.YtohnaepcgnbaiaaGreatDoor
