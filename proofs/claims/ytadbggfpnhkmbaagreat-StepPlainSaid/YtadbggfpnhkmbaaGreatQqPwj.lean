/- Walks of functions that the claim reaches, and plain facts of them. Conditions: those in the statements. -/
import Derived.Test.YtadbggfpnhkmbaaGreatQqPkj
import Derived.Test.YtadbggfpnhkmbaaGreatQqYaj
set_option linter.unusedSimpArgs false
set_option linter.unusedVariables false
set_option maxRecDepth 100000
namespace Go.Proofs.YtadbggfpnhkmbaaGreat
open Go.RowKit
theorem GS.wkobj {s:St}{b:Nat}{T:TypeId}{xs ys:List VV}(hb:s b=.obj T xs)(hl:ys.length=xs.length)
  (hw:∀(j:Nat) (y:VV),ys[j]?=some y→∃x,xs[j]?=some x∧Wk x y∧(x.one=true→y.one=true)):GS s (s.set b (.obj T ys)):=by
 intro w0 G w h
 have hob:=h.ok b
 rw[hb]at hob
 obtain⟨hB,hn,c,hc,hsz,hx⟩:=hob
 refine⟨h.below,h.K,h.cap,fun x=>?_,h.gl,h.rows.keep' (Gh.le.refl G) (Nat.le_refl _) (fun g _ hg=>⟨?_,rfl,fun _=>rfl⟩) (fun b' T' xs' rs' hb'=>?_)⟩
 ·by_cases e:x=b
  ·subst e
   rw[St.set_same]
   refine⟨hB,hn,c,hc,hsz.trans hl.symm,fun i y hy=>?_⟩
   obtain⟨x0,h0,h1,h2⟩:=hw i y hy
   obtain⟨h3,v,hv,hR⟩:=hx i x0 h0
   exact⟨h2 h3,v,hv,h1 G v hR⟩
  ·rw[St.set_other _ _ e];exact h.ok x
 ·rw[St.set_other _ _ (by rintro rfl;rw[hb]at hg;cases hg)];exact hg
 ·have hne:b'≠b:=by rintro rfl;rw[St.set_same]at hb';cases hb'
  rw[St.set_other _ _ hne]at hb'
  exact⟨hb',rfl⟩
theorem Wk.rows {l l':List (List VV)}{o:Own}(hl:l'.length=l.length)(hw:∀(i:Nat) (x':List VV),l'[i]?=some x'→∃x,l[i]?=some x∧WkL x x'):Wk (.lst l o) (.lst l' o):=
 fun _ _ h=>h.wkrow hl hw
theorem Kp_wkt {P:Program}{N:Nat}{D:List Deferred}{c:Code}{k:List Itm}{Q:Pst}{env:Env}{s:St}(t:Nat){x y:VV}(ht:env t=x)(hw:Wk x y)(h:Kp P N D (.code c::k) Q .norm (upd env t y) s):Kp P N D (.code c::k) Q .norm env s:=
 fun w0 G w a hfr hD hS=>h w0 G w a ⟨hfr.size,fun i=>by
  by_cases e:i=t
  ·subst e
   simp only[upd,if_true]
   exact hw _ _ (ht ▸ hfr.rel i)
  ·simp only[upd,if_neg e]
   exact hfr.rel i⟩ hD hS
theorem OwnOk.fg {B T:St}{o:Own}{n:Nat}(h:OwnOk B o n)(hf:Fg B T):OwnOk T o n:=by
 cases o with
 |at_ b=>
  rcases hf b with e|e
  ·exact e
  ·exact e.trans h
 |_=>exact h
theorem Fg.free {B T:St}(h:Fg B T){b:Nat}(hb:B b=.free):T b=.free:=by
 rcases h b with e|e
 ·exact e
 ·exact e.trans hb
section
variable {w0 w : World} {G : Gh} {s : St} {b g i n sz : Nat} {T T' : TypeId} {xs cs : List VV} {ys : List (List VV)}
theorem Sim.frzN (h:Sim w0 G w s)(hb:s g=.row T sz xs) :
  ∃G',G.le G'∧Sim w0 G' w (s.set g .free)∧(∀(i:Nat) (y:VV),xs[i]?=some y→y.one=true∧∃v,G'.K g i=some v∧R G' v y)∧G'.cap=G.cap:=by
 have hok:=h.ok g
 rw[hb]at hok
 obtain⟨hB,hn,c,cap,hh,hq,hs,hl,hm,hx⟩:=hok
 have hle:G.le ⟨fun b' i=>if b'=g then(if i<xs.length then c[i]? else none)else G.K b' i,G.cap⟩:=⟨fun b' i v hv=>by
  by_cases e:b'=g
  ·subst e;rw[hn i]at hv;cases hv
  ·simp only[if_neg e];exact hv,fun _ _ hc=>hc⟩
 refine⟨_,hle,⟨h.below,fun b' i v hv=>?_,h.cap,fun b'=>?_,h.gl,?_⟩,fun i y hy=>?_,rfl⟩
 ·by_cases e:b'=g
  ·subst e
   simp only[if_true]at hv
   split at hv
   ·simp[World.cell?,hh,hv]
   ·cases hv
  ·simp only[if_neg e]at hv
   exact h.K _ _ _ hv
 ·by_cases e:b'=g
  ·subst e;rw[St.set_same];trivial
  ·rw[St.set_other _ _ e]
   exact CellOk.keep (h.ok b') rfl hle (fun i=>if_neg e)
 ·refine Rows.keep h.rows hle (Nat.le_refl _) (fun g' hg hs=>?_) (fun b' T' xs' rs hb'=>?_)
  ·have hne:g'≠g:=by rintro rfl;rw[hb]at hs;cases hs
   exact⟨by rw[St.set_other _ _ hne];exact hs,rfl,fun i=>if_neg hne⟩
  ·have hne:b'≠g:=by rintro rfl;rw[St.set_same]at hb';cases hb'
   rw[St.set_other _ _ hne]at hb'
   exact⟨xs',rs,hb',fun r hr=>⟨hr,rfl,fun c hc=>⟨c,hc,rfl⟩⟩⟩
 ·obtain⟨h1,v,hv,hr⟩:=hx i y hy
  have hi:=(List.getElem?_eq_some_iff.1 hy).1
  exact⟨h1,v,by simp only[if_true,if_pos hi];exact hv,hr.mono hle⟩
theorem flat_at2:∀{ys:List (List VV)},(∀y,y∈ys→y.length=sz)→∀{i j:Nat} {x:List VV} {y:VV},ys[i]?=some x→x[j]?=some y→ys.flatten[i * sz+j]?=some y
 |[],_,i,j,x,y,h,_=>by simp at h
 |a::ys,hz,0,j,x,y,h,hy=>by
  simp only[List.getElem?_cons_zero,Option.some.injEq]at h
  subst h
  rw[List.flatten_cons,Nat.zero_mul,Nat.zero_add,List.getElem?_append_left (List.getElem?_eq_some_iff.1 hy).1]
  exact hy
 |a::ys,hz,i+1,j,x,y,h,hy=>by
  have ha:=hz a (by simp)
  rw[List.flatten_cons,List.getElem?_append_right (by rw[ha,Nat.add_mul];omega),ha]
  have:=flat_at2 (ys:=ys) (fun y hy=>hz y (by simp[hy])) (i:=i) (j:=j) (by simpa using h) hy
  rw[← this]
  congr 1
  rw[Nat.add_mul]
  omega
theorem R.frzN {v:Value}(hn:ys.length=n)(hy:∀y,y∈ys→y.length=sz)(hK:∀(i:Nat) (y:VV),ys.flatten[i]?=some y→y.one=true∧∃v,G.K g i=some v∧R G v y)(hr:R G v (.mrw g n)):R G v (.lst ys .no):=by
 cases hr with
 |mrw b' n' cap sz' hq hc=>
  rcases Nat.eq_zero_or_pos n with h0|hpos
  ·subst h0
   have:ys=[]:=List.eq_nil_of_length_eq_zero hn
   subst this
   exact .emp _ _ _ (.inl rfl)
  ·refine .lst g 0 n cap sz ys .no (fun i j=>(G.K g (i * sz+j)).getD default) hn hc hy ?_ ?_ ?_ (.inl rfl)
   ·intro x hx y hyx
    obtain⟨i,hi⟩:=List.mem_iff_getElem?.1 hx
    obtain⟨j,hj⟩:=List.mem_iff_getElem?.1 hyx
    exact(hK _ y (flat_at2 hy hi hj)).1
   ·intro i j hi hj
    have h1:ys[i]?=some ys[i]:=List.getElem?_eq_getElem (by omega)
    have hlj:j<(ys[i]).length:=by rw[hy _ (List.getElem_mem _)];exact hj
    have h2:(ys[i])[j]?=some (ys[i])[j]:=List.getElem?_eq_getElem hlj
    obtain⟨_,v,h3,_⟩:=hK _ _ (flat_at2 hy h1 h2)
    rw[Nat.zero_add,h3]
    rfl
   ·intro i j x y hx hyx
    obtain⟨_,v,h3,h4⟩:=hK _ _ (flat_at2 hy hx hyx)
    rw[h3]
    exact h4
def Sub1 (g n:Nat)(ys:List (List VV))(x x':List VV):Prop:=x'.length=x.length∧∀(j:Nat) (y':VV),x'[j]?=some y'→∃y,x[j]?=some y∧(y'=y∨(y=.mrw g n∧y'=.lst ys .no))
theorem R.subM {v:Value}{l l':List (List VV)}{o:Own}(hm:∀u,R G u (.mrw g n)→R G u (.lst ys .no))(hl:l'.length=l.length)
  (hw:∀(i:Nat) (x':List VV),l'[i]?=some x'→∃x,l[i]?=some x∧Sub1 g n ys x x') (h:R G v (.lst l o)):R G v (.lst l' .no):=by
 generalize hq:VV.lst l o=q at h
 cases h with
 |emp a cap o2 ho=>
  injection hq with hq1 hq2;subst hq1;subst hq2
  obtain rfl:l'=[]:=List.eq_nil_of_length_eq_zero hl
  exact .emp _ _ _ (.inl rfl)
 |lst b' off len cap sz' xs' o f hl2 hc' hz h1' hK hR' ho'=>
  injection hq with hq1 hq2;subst hq1;subst hq2
  refine .lst b' off len cap sz' l' _ f (hl.trans hl2) hc' (fun x hx=>?_) (fun x hx y hy=>?_) hK (fun i j x y hx hy=>?_) (.inl rfl)
  ·obtain⟨i,hi⟩:=List.getElem?_of_mem hx
   obtain⟨x0,h0,h2⟩:=hw i x hi
   rw[← hz x0 (List.mem_of_getElem? h0),h2.1]
  ·obtain⟨i,hi⟩:=List.getElem?_of_mem hx
   obtain⟨j,hj⟩:=List.getElem?_of_mem hy
   obtain⟨x0,h0,h2⟩:=hw i x hi
   obtain⟨y0,h3,h4⟩:=h2.2 j y hj
   rcases h4 with e|⟨_,e⟩
   ·rw[e];exact h1' x0 (List.mem_of_getElem? h0) y0 (List.mem_of_getElem? h3)
   ·rw[e];rfl
  ·obtain⟨x0,h0,h2⟩:=hw i x hx
   obtain⟨y0,h3,h4⟩:=h2.2 j y hy
   have hr:=hR' i j x0 y0 h0 h3
   rcases h4 with e|⟨e1,e2⟩
   ·rw[e];exact hr
   ·rw[e2];exact hm _ (e1 ▸ hr)
 |_=>cases hq
theorem GSg.frzL {l l':List (List VV)}{o:Own}(hb:s b=.obj T cs)(hi:cs[i]?=some (.lst l o))(hg:s g=.row T' sz ys.flatten)(hn:ys.length=n)(hy:∀y,y∈ys→y.length=sz)(hl:l'.length=l.length)
  (hw:∀(i:Nat) (x':List VV),l'[i]?=some x'→∃x,l[i]?=some x∧Sub1 g n ys x x') :
  GSg s ((s.set g .free).set b (.obj T (cs.set i (.lst l' .no)))):=by
 intro w0 G w h
 have hne:¬ b=g:=by rintro rfl;rw[hb]at hg;cases hg
 obtain⟨G',hle,hS,hK,_⟩:=h.frzN hg
 have hob:=hS.ok b
 rw[St.set_other _ _ hne,hb]at hob
 obtain⟨hB,hnK,c,hc,hsz,hx⟩:=hob
 refine⟨G',hle,hS.below,hS.K,hS.cap,fun x=>?_,hS.gl,hS.rows.keep' (Gh.le.refl _) (Nat.le_refl _) (fun g' _ hg'=>⟨?_,rfl,fun _=>rfl⟩) (fun b' T xs rs hb'=>?_)⟩
 ·by_cases hxb:x=b
  ·subst hxb
   rw[St.set_same]
   refine⟨hB,hnK,c,hc,by rw[hsz,List.length_set],fun j y hj=>?_⟩
   by_cases hji:j=i
   ·subst hji
    rw[set_some hi]at hj
    injection hj with hj
    subst hj
    obtain⟨_,v,hv,hr⟩:=hx j _ hi
    exact⟨rfl,v,hv,R.subM (fun u hu=>R.frzN hn hy hK hu) hl hw hr⟩
   ·rw[List.getElem?_set_ne (Ne.symm hji)]at hj
    exact hx j y hj
  ·rw[St.set_other _ _ hxb];exact hS.ok x
 ·by_cases e:g'=b
  ·subst e;rw[St.set_other _ _ hne,hb]at hg';cases hg'
  ·rw[St.set_other _ _ e];exact hg'
 ·by_cases e:b'=b
  ·subst e;rw[St.set_same]at hb';cases hb'
  ·rw[St.set_other _ _ e]at hb';exact⟨hb',rfl⟩
end
section
variable {w0 w : World} {G : Gh} {s : St} {b g i n sz : Nat} {T T' : TypeId} {xs cs : List VV} {ys : List (List VV)}
theorem GSg.frzN (hb:s b=.obj T cs)(hi:cs[i]?=some (.mrw g n))(hg:s g=.row T' sz ys.flatten)(hn:ys.length=n)(hy:∀y,y∈ys→y.length=sz) :
  GSg s ((s.set g .free).set b (.obj T (cs.set i (.lst ys .no)))):=by
 intro w0 G w h
 have hne:¬ b=g:=by rintro rfl;rw[hb]at hg;cases hg
 obtain⟨G',hle,hS,hK,_⟩:=h.frzN hg
 have hob:=hS.ok b
 rw[St.set_other _ _ hne,hb]at hob
 obtain⟨hB,hnK,c,hc,hsz,hx⟩:=hob
 refine⟨G',hle,hS.below,hS.K,hS.cap,fun x=>?_,hS.gl,hS.rows.keep' (Gh.le.refl _) (Nat.le_refl _) (fun g' _ hg'=>⟨?_,rfl,fun _=>rfl⟩) (fun b' T xs rs hb'=>?_)⟩
 ·by_cases hxb:x=b
  ·subst hxb
   rw[St.set_same]
   refine⟨hB,hnK,c,hc,by rw[hsz,List.length_set],fun j y hj=>?_⟩
   by_cases hji:j=i
   ·subst hji
    rw[set_some hi]at hj
    injection hj with hj
    subst hj
    obtain⟨_,v,hv,hr⟩:=hx j _ hi
    exact⟨rfl,v,hv,R.frzN hn hy hK hr⟩
   ·rw[List.getElem?_set_ne (Ne.symm hji)]at hj
    exact hx j y hj
  ·rw[St.set_other _ _ hxb];exact hS.ok x
 ·by_cases e:g'=b
  ·subst e;rw[St.set_other _ _ hne,hb]at hg';cases hg'
  ·rw[St.set_other _ _ e];exact hg'
 ·by_cases e:b'=b
  ·subst e;rw[St.set_same]at hb';cases hb'
  ·rw[St.set_other _ _ e]at hb';exact⟨hb',rfl⟩
theorem Wk.rowsG {l l':List (List VV)}{o:Own}(hl:l'.length=l.length)
  (hw:∀(i:Nat) (x':List VV),l'[i]?=some x'→∃x,l[i]?=some x∧x'.length=x.length∧∀(j:Nat) (y':VV),x'[j]?=some y'→∃y,x[j]?=some y∧Wk y y'∧(y.one=true→y'.one=true)):Wk (.lst l o) (.lst l' .no):=fun G v h=>by
 generalize hq:VV.lst l o=q at h
 cases h with
 |emp a cap o2 ho=>
  injection hq with hq1 hq2;subst hq1;subst hq2
  obtain rfl:l'=[]:=List.eq_nil_of_length_eq_zero hl
  exact .emp _ _ _ (.inl rfl)
 |lst b' off len cap sz' xs' o f hl2 hc' hz h1' hK hR' ho'=>
  injection hq with hq1 hq2;subst hq1;subst hq2
  refine .lst b' off len cap sz' l' _ f (hl.trans hl2) hc' (fun x hx=>?_) (fun x hx y hy=>?_) hK (fun i j x y hx hy=>?_) (.inl rfl)
  ·obtain⟨i,hi⟩:=List.getElem?_of_mem hx
   obtain⟨x0,h0,h2,_⟩:=hw i x hi
   rw[← hz x0 (List.mem_of_getElem? h0),h2]
  ·obtain⟨i,hi⟩:=List.getElem?_of_mem hx
   obtain⟨j,hj⟩:=List.getElem?_of_mem hy
   obtain⟨x0,h0,_,h2⟩:=hw i x hi
   obtain⟨y0,h3,_,h5⟩:=h2 j y hj
   exact h5 (h1' x0 (List.mem_of_getElem? h0) y0 (List.mem_of_getElem? h3))
  ·obtain⟨x0,h0,_,h2⟩:=hw i x hx
   obtain⟨y0,h3,h4,_⟩:=h2 j y hy
   exact h4 G _ (hR' i j x0 y0 h0 h3)
 |_=>cases hq
end
end Go.Proofs.YtadbggfpnhkmbaaGreat
