/- Walks of functions that the claim reaches, and plain facts of them. Conditions: those in the statements. -/
import Derived.Test.YtgdbgfjhenobdaaGreatDoorJmCrj
set_option linter.unusedSimpArgs false
set_option linter.unusedVariables false
set_option maxRecDepth 100000
namespace Go.Proofs.YtgdbgfjhenobdaaGreatDoor
open Go.RowKit
theorem Stm1_comm {t:St}{x1 b1 x2 b2:Nat}{l1 l2:List (List UInt8)}(h1:¬ x1=x2)(h2:¬ x1=b2)(h3:¬ b1=x2)(h4:¬ b1=b2):Stm1 (Stm1 t x1 b1 l1) x2 b2 l2=Stm1 (Stm1 t x2 b2 l2) x1 b1 l1:=by
 funext z
 unfold Stm1
 simp only[St.set]
 by_cases e1:z=x1
 ·subst e1;simp[h1,h2]
 ·by_cases e2:z=b1
  ·subst e2;simp[h3,h4]
  ·simp[e1,e2]
section
variable {t : St} {xb bm : Nat} {l : List (List UInt8)} {o : Own} {T sz n : Nat}
theorem Stm1_own (h1:NotOwn o xb)(h2:NotOwn o bm):(Stm1 t xb bm l).own o T sz n=Stm1 (t.own o T sz n) xb bm l:=by unfold Stm1;rw[own_push h1,own_push h2]
theorem Stm1_dis (h1:NotOwn o xb)(h2:NotOwn o bm):(Stm1 t xb bm l).disown o=Stm1 (t.disown o) xb bm l:=by unfold Stm1;rw[disown_set h1,disown_set h2]
theorem Stm1_ok:OwnOk (Stm1 t xb bm l) o n=(NotOwn o xb∧NotOwn o bm∧OwnOk t o n):=by unfold Stm1;rw[ownok_pk,ownok_m]
theorem Stm1_ownd (h1:NotOwn o xb)(h2:NotOwn o bm):Owned (Stm1 t xb bm l) o T sz n=Owned t o T sz n:=by unfold Stm1;rw[owned_set h1,owned_set h2]
end
def natsL (l:List Nat):List (List VV):=l.map fun(n:Nat)=>[VV.int .i64 (n:Int)]
abbrev fctV (a0 a1 a2 a3 a6 a7 a8:VV):List VV:=[a0,a1,a2,a3,.lst [] .full,.lst [] .full,a6,a7,a8,.lst [] .full,.lst [] .full,.lst [] .full,.lst [] .full,.lst [] .full,.lst [] .full,.lst [] .full,.lst [] .full,.lst [] .full,.lst [] .full,.lst [] .full,.lst [] .full]
abbrev fctC (q:Nms):List VV:=fctV (.lst (strs q.mths) .no) (.lst (strs q.vars) .no) (.lst (strs q.sites) .no) (.lst (strs q.calls) .no) (.lst (natsL q.owner) .no) (.lst (natsL q.home) .no) (.int .i64 (q.main:Int))
abbrev rsF:List (Nat×TypeId×Nat):=[(0,9,1),(1,9,1),(2,9,1),(3,9,1),(6,3,1),(7,3,1)]
structure B5 where
 bf:Nat
 xn:Nat
 bn:Nat
 xf:Nat
 bm:Nat
structure B7 extends B5 where
 xv:Nat
 bv:Nat
def B5.l (B:B5):List Nat:=[B.bf,B.xn,B.bn,B.xf,B.bm]
def B7.l (B:B7):List Nat:=[B.xv,B.bv,B.bf,B.xn,B.bn,B.xf,B.bm]
def NA (b:Nat)(l:List Nat):Prop:=∀x,x∈l→¬ b=x∧¬ x=b
def NO (o:Own)(l:List Nat):Prop:=∀x,x∈l→NotOwn o x
def Nm2 (t:St)(c:Cell)(B:B5)(ns fs:List (List UInt8)):St:=Stm1 (Stm1 (t.set B.bf c) B.xn B.bn ns) B.xf B.bm fs
def NmX (t:St)(c:Cell)(B:B7)(ns fs vs:List (List UInt8)):St:=Stm1 (Nm2 t c B.toB5 ns fs) B.xv B.bv vs
structure NFr (t:St) (l:List Nat):Prop where
 nd:l.Nodup
 fr:∀b,b∈l→t b=.free
theorem NFr.set {t:St}{l:List Nat}{b:Nat}{c:Cell}(h:NFr t l)(hb:NA b l):NFr (t.set b c) l:=
 ⟨h.nd,fun z hz=>by rw[St.set_other _ _ (hb z hz).2];exact h.fr z hz⟩
theorem NFr.own {t:St}{l:List Nat}{o:Own}{T sz n:Nat}(h:NFr t l)(ho:NO o l):NFr (t.own o T sz n) l:=
 ⟨h.nd,fun z hz=>by rw[own_rd (ho z hz)];exact h.fr z hz⟩
theorem NFr.na {t:St}{l:List Nat}{b:Nat}(h:NFr t l)(hb:t b≠.free):NA b l:=fun x hx=>⟨fun e=>hb (by rw[e];exact h.fr x hx),fun e=>hb (by rw[← e];exact h.fr x hx)⟩
section
variable {t : St} {c : Cell} {B : B5} {C : B7} {ns fs vs : List (List UInt8)} {b : Nat} {o : Own} {T sz n : Nat}
theorem NA5 (h:NA b B.l):¬ b=B.bf∧¬ b=B.xn∧¬ b=B.bn∧¬ b=B.xf∧¬ b=B.bm:=⟨(h _ (by simp[B5.l])).1,(h _ (by simp[B5.l])).1,(h _ (by simp[B5.l])).1,(h _ (by simp[B5.l])).1,(h _ (by simp[B5.l])).1⟩
theorem NA7 (h:NA b C.l):¬ b=C.xv∧¬ b=C.bv∧NA b C.toB5.l:=⟨(h _ (by simp[B7.l])).1,(h _ (by simp[B7.l])).1,fun x hx=>h x (by simp[B5.l,B7.l]at hx ⊢;exact .inr (.inr hx))⟩
theorem NO5 (h:NO o B.l):NotOwn o B.bf∧NotOwn o B.xn∧NotOwn o B.bn∧NotOwn o B.xf∧NotOwn o B.bm:=⟨h _ (by simp[B5.l]),h _ (by simp[B5.l]),h _ (by simp[B5.l]),h _ (by simp[B5.l]),h _ (by simp[B5.l])⟩
theorem NO7 (h:NO o C.l):NotOwn o C.xv∧NotOwn o C.bv∧NO o C.toB5.l:=⟨h _ (by simp[B7.l]),h _ (by simp[B7.l]),fun x hx=>h x (by simp[B5.l,B7.l]at hx ⊢;exact .inr (.inr hx))⟩
theorem nd5 (h:B.l.Nodup):(¬ B.bf=B.xn∧¬ B.bf=B.bn∧¬ B.bf=B.xf∧¬ B.bf=B.bm)∧(¬ B.xn=B.bn∧¬ B.xn=B.xf∧¬ B.xn=B.bm)∧(¬ B.bn=B.xf∧¬ B.bn=B.bm)∧¬ B.xf=B.bm:=by
 simpa [B5.l]using h
theorem nd7 (h:C.l.Nodup):(¬ C.xv=C.bv∧¬ C.xv=C.bf∧¬ C.xv=C.xn∧¬ C.xv=C.bn∧¬ C.xv=C.xf∧¬ C.xv=C.bm)∧(¬ C.bv=C.bf∧¬ C.bv=C.xn∧¬ C.bv=C.bn∧¬ C.bv=C.xf∧¬ C.bv=C.bm)∧C.toB5.l.Nodup:=by
 have:=h
 simp only[B7.l,List.nodup_cons,List.mem_cons,List.not_mem_nil,or_false,not_or]at this
 exact⟨this.1,this.2.1,by simp only[B5.l,List.nodup_cons,List.mem_cons,List.not_mem_nil,or_false,not_or];exact this.2.2⟩
theorem Nm2_set {d:Cell}(h:NA b B.l):(Nm2 t c B ns fs).set b d=Nm2 (t.set b d) c B ns fs:=by
 obtain⟨h1,h2,h3,h4,h5⟩:=NA5 h
 unfold Nm2
 rw[Stm1_set h4 h5,Stm1_set h2 h3,set_comm' (fun e=>h1 e.symm)]
theorem NmX_set {d:Cell}(h:NA b C.l):(NmX t c C ns fs vs).set b d=NmX (t.set b d) c C ns fs vs:=by
 obtain⟨h1,h2,h3⟩:=NA7 h
 unfold NmX
 rw[Stm1_set h1 h2,Nm2_set h3]
theorem Nm2_gt (h:NA b B.l):(Nm2 t c B ns fs) b=t b:=by
 obtain⟨h1,h2,h3,h4,h5⟩:=NA5 h
 unfold Nm2
 rw[Stm1_gt h4 h5,Stm1_gt h2 h3,St.set_other _ _ h1]
theorem NmX_gt (h:NA b C.l):(NmX t c C ns fs vs) b=t b:=by
 obtain⟨h1,h2,h3⟩:=NA7 h
 unfold NmX
 rw[Stm1_gt h1 h2,Nm2_gt h3]
theorem Nm2_bf (h:B.l.Nodup):(Nm2 t c B ns fs) B.bf=c:=by
 obtain⟨⟨_,_,_,_⟩,_,_,_⟩:=nd5 h
 unfold Nm2
 rw[Stm1_gt (by assumption) (by assumption),Stm1_gt (by assumption) (by assumption),St.set_same]
theorem NmX_bf (h:C.l.Nodup):(NmX t c C ns fs vs) C.bf=c:=by
 obtain⟨⟨_,q1,_,_,_,_⟩,⟨q2,_,_,_,_⟩,h3⟩:=nd7 h
 unfold NmX
 rw[Stm1_gt (fun e=>q1 e.symm) (fun e=>q2 e.symm),Nm2_bf h3]
theorem Nm2_setf {d:Cell}(h:B.l.Nodup):(Nm2 t c B ns fs).set B.bf d=Nm2 t d B ns fs:=by
 obtain⟨⟨_,_,_,_⟩,_,_,_⟩:=nd5 h
 unfold Nm2
 rw[Stm1_set (by assumption) (by assumption),Stm1_set (by assumption) (by assumption),St.set_set]
theorem NmX_setf {d:Cell}(h:C.l.Nodup):(NmX t c C ns fs vs).set C.bf d=NmX t d C ns fs vs:=by
 obtain⟨⟨_,q1,_,_,_,_⟩,⟨q2,_,_,_,_⟩,h3⟩:=nd7 h
 unfold NmX
 rw[Stm1_set (fun e=>q1 e.symm) (fun e=>q2 e.symm),Nm2_setf h3]
theorem Nm2_own (h:NO o B.l):(Nm2 t c B ns fs).own o T sz n=Nm2 (t.own o T sz n) c B ns fs:=by
 obtain⟨h1,h2,h3,h4,h5⟩:=NO5 h
 unfold Nm2
 rw[Stm1_own h4 h5,Stm1_own h2 h3,own_push h1]
theorem NmX_own (h:NO o C.l):(NmX t c C ns fs vs).own o T sz n=NmX (t.own o T sz n) c C ns fs vs:=by
 obtain⟨h1,h2,h3⟩:=NO7 h
 unfold NmX
 rw[Stm1_own h1 h2,Nm2_own h3]
theorem Nm2_dis (h:NO o B.l):(Nm2 t c B ns fs).disown o=Nm2 (t.disown o) c B ns fs:=by
 obtain⟨h1,h2,h3,h4,h5⟩:=NO5 h
 unfold Nm2
 rw[Stm1_dis h4 h5,Stm1_dis h2 h3,disown_set h1]
theorem NmX_dis (h:NO o C.l):(NmX t c C ns fs vs).disown o=NmX (t.disown o) c C ns fs vs:=by
 obtain⟨h1,h2,h3⟩:=NO7 h
 unfold NmX
 rw[Stm1_dis h1 h2,Nm2_dis h3]
theorem Nm2_ownd (h:NO o B.l):Owned (Nm2 t c B ns fs) o T sz n=Owned t o T sz n:=by
 obtain⟨h1,h2,h3,h4,h5⟩:=NO5 h
 unfold Nm2
 rw[Stm1_ownd h4 h5,Stm1_ownd h2 h3,owned_set h1]
theorem NmX_ownd (h:NO o C.l):Owned (NmX t c C ns fs vs) o T sz n=Owned t o T sz n:=by
 obtain⟨h1,h2,h3⟩:=NO7 h
 unfold NmX
 rw[Stm1_ownd h1 h2,Nm2_ownd h3]
theorem Nm2_ok {Tc:TypeId}{xs:List VV}{rs:List (Nat×TypeId×Nat)}:OwnOk (Nm2 t (.pk Tc xs rs) B ns fs) o n=(NO o B.l∧OwnOk t o n):=by
 unfold Nm2
 rw[Stm1_ok,Stm1_ok,ownok_pk]
 apply propext
 constructor
 ·rintro⟨h1,h2,h3,h4,h5,h6⟩
  refine⟨fun x hx=>?_,h6⟩
  simp only[B5.l,List.mem_cons,List.not_mem_nil,or_false]at hx
  rcases hx with rfl|rfl|rfl|rfl|rfl<;>assumption
 ·rintro⟨h,h6⟩
  obtain⟨h1,h2,h3,h4,h5⟩:=NO5 h
  exact⟨h4,h5,h2,h3,h1,h6⟩
theorem NmX_ok {Tc:TypeId}{xs:List VV}{rs:List (Nat×TypeId×Nat)}:OwnOk (NmX t (.pk Tc xs rs) C ns fs vs) o n=(NO o C.l∧OwnOk t o n):=by
 unfold NmX
 rw[Stm1_ok,Nm2_ok]
 apply propext
 constructor
 ·rintro⟨h1,h2,h3,h6⟩
  refine⟨fun x hx=>?_,h6⟩
  simp only[B7.l,List.mem_cons,List.not_mem_nil,or_false]at hx
  rcases hx with rfl|rfl|hx
  ·exact h1
  ·exact h2
  ·exact h3 x (by simpa [B5.l]using hx)
 ·rintro⟨h,h6⟩
  obtain⟨h1,h2,h3⟩:=NO7 h
  exact⟨h1,h2,h3,h6⟩
theorem Nm2_free {Tc:TypeId}{xs:List VV}{rs:List (Nat×TypeId×Nat)}:((Nm2 t (.pk Tc xs rs) B ns fs) b=.free)=(NA b B.l∧t b=.free):=by
 apply propext
 unfold Nm2
 rw[Stm1_free,Stm1_free,set_free_p]
 constructor
 ·rintro⟨h1,h2,h3,h4,h5,h6,h7,h8,h9,h10,h11⟩
  refine⟨fun x hx=>?_,h11⟩
  simp only[B5.l,List.mem_cons,List.not_mem_nil,or_false]at hx
  rcases hx with rfl|rfl|rfl|rfl|rfl<;>exact⟨by assumption,by assumption⟩
 ·rintro⟨h,h6⟩
  obtain⟨h1,h2,h3,h4,h5⟩:=NA5 h
  exact⟨h4,fun e=>h4 e.symm,h5,fun e=>h5 e.symm,h2,fun e=>h2 e.symm,h3,fun e=>h3 e.symm,h1,fun e=>h1 e.symm,h6⟩
theorem NmX_free {Tc:TypeId}{xs:List VV}{rs:List (Nat×TypeId×Nat)}:((NmX t (.pk Tc xs rs) C ns fs vs) b=.free)=(NA b C.l∧t b=.free):=by
 apply propext
 unfold NmX
 rw[Stm1_free,Nm2_free]
 constructor
 ·rintro⟨h1,h2,h3,h4,h5,h6⟩
  refine⟨fun x hx=>?_,h6⟩
  simp only[B7.l,List.mem_cons,List.not_mem_nil,or_false]at hx
  rcases hx with rfl|rfl|hx
  ·exact⟨h1,h2⟩
  ·exact⟨h3,h4⟩
  ·exact h5 x (by simpa [B5.l]using hx)
 ·rintro⟨h,h6⟩
  obtain⟨h1,h2,h3⟩:=NA7 h
  exact⟨h1,fun e=>h1 e.symm,h2,fun e=>h2 e.symm,h3,h6⟩
end
theorem Nadd_v {t:St}{c:Cell}{C:B7}(h:NFr t C.l)(ns fs vs ts:List (List UInt8))(o:Own)(hl:vs.length≤1000000000000)(ht:ts.length≤100000) :
  SRet Tryz.prog 61 [.ptr C.xv 0,.lst (ts.map strC) o] (NmX t c C ns fs vs) (.tup []) (NmX t c C ns fs (addsS vs ts)):=by
 obtain⟨⟨q0,q1,q2,q3,q4,q5⟩,⟨r1,r2,r3,r4,r5⟩,_⟩:=nd7 h.nd
 have f1:=h.fr C.xv (by simp[B7.l])
 have f2:=h.fr C.bv (by simp[B7.l])
 unfold NmX Nm2
 refine Cadd_S _ C.xv C.bv vs ts o ?_ ?_ (fun e=>q0 e.symm) hl ht
 ·rw[Stm1_gt q4 q5,Stm1_gt q2 q3,St.set_other _ _ q1];exact f1
 ·rw[Stm1_gt r4 r5,Stm1_gt r2 r3,St.set_other _ _ r1];exact f2
theorem Nadd_f {t:St}{c:Cell}{C:B7}(h:NFr t C.l)(ns fs vs ts:List (List UInt8))(o:Own)(hl:fs.length≤1000000000000)(ht:ts.length≤100000) :
  SRet Tryz.prog 61 [.ptr C.xf 0,.lst (ts.map strC) o] (NmX t c C ns fs vs) (.tup []) (NmX t c C ns (addsS fs ts) vs):=by
 obtain⟨⟨q0,q1,q2,q3,q4,q5⟩,⟨r1,r2,r3,r4,r5⟩,h5⟩:=nd7 h.nd
 obtain⟨⟨s1,s2,s3,s4⟩,⟨s5,s6,s7⟩,⟨s8,s9⟩,s10⟩:=nd5 h5
 have f1:=h.fr C.xf (by simp[B7.l])
 have f2:=h.fr C.bm (by simp[B7.l])
 unfold NmX Nm2
 rw[Stm1_comm (x1:=C.xf) (x2:=C.xv) (fun e=>q4 e.symm) (fun e=>r4 e.symm) (fun e=>q5 e.symm) (fun e=>r5 e.symm),Stm1_comm (x1:=C.xf) (x2:=C.xv) (fun e=>q4 e.symm) (fun e=>r4 e.symm) (fun e=>q5 e.symm) (fun e=>r5 e.symm)]
 refine Cadd_S _ C.xf C.bm fs ts o ?_ ?_ (fun e=>s10 e.symm) hl ht
 ·rw[Stm1_gt (fun e=>q4 e.symm) (fun e=>r4 e.symm),Stm1_gt (fun e=>s6 e.symm) (fun e=>s8 e.symm),St.set_other _ _ (fun e=>s3 e.symm)];exact f1
 ·rw[Stm1_gt (fun e=>q5 e.symm) (fun e=>r5 e.symm),Stm1_gt (fun e=>s7 e.symm) (fun e=>s9 e.symm),St.set_other _ _ (fun e=>s4 e.symm)];exact f2
theorem Nadd_n {t:St}{c:Cell}{C:B7}(h:NFr t C.l)(ns fs vs ts:List (List UInt8))(o:Own)(hl:ns.length≤1000000000000)(ht:ts.length≤100000) :
  SRet Tryz.prog 61 [.ptr C.xn 0,.lst (ts.map strC) o] (NmX t c C ns fs vs) (.tup []) (NmX t c C (addsS ns ts) fs vs):=by
 obtain⟨⟨q0,q1,q2,q3,q4,q5⟩,⟨r1,r2,r3,r4,r5⟩,h5⟩:=nd7 h.nd
 obtain⟨⟨s1,s2,s3,s4⟩,⟨s5,s6,s7⟩,⟨s8,s9⟩,s10⟩:=nd5 h5
 have f1:=h.fr C.xn (by simp[B7.l])
 have f2:=h.fr C.bn (by simp[B7.l])
 have key:∀(F:St) (l:List (List UInt8)),Stm1 (Stm1 (Stm1 F C.xn C.bn l) C.xf C.bm fs) C.xv C.bv vs=Stm1 (Stm1 (Stm1 F C.xf C.bm fs) C.xv C.bv vs) C.xn C.bn l:=fun F l=>by
  rw[Stm1_comm (t:=F) (x1:=C.xn) (x2:=C.xf) s6 s7 s8 s9,Stm1_comm (x1:=C.xn) (x2:=C.xv) (fun e=>q2 e.symm) (fun e=>r2 e.symm) (fun e=>q3 e.symm) (fun e=>r3 e.symm)]
 unfold NmX Nm2
 rw[key,key]
 refine Cadd_S _ C.xn C.bn ns ts o ?_ ?_ (fun e=>s5 e.symm) hl ht
 ·rw[Stm1_gt (fun e=>q2 e.symm) (fun e=>r2 e.symm),Stm1_gt s6 s7,St.set_other _ _ (fun e=>s1 e.symm)];exact f1
 ·rw[Stm1_gt (fun e=>q3 e.symm) (fun e=>r3 e.symm),Stm1_gt s8 s9,St.set_other _ _ (fun e=>s2 e.symm)];exact f2
end Go.Proofs.YtgdbgfjhenobdaaGreatDoor
