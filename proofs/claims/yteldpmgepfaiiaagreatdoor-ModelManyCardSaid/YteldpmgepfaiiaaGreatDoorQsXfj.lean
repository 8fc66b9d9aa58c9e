/- Walks of functions, and plain facts. Conditions: those in the statements. -/
import Derived.Test.YteldpmgepfaiiaaGreatDoorQsXcj
set_option linter.unusedSimpArgs false
set_option linter.unusedVariables false
set_option maxRecDepth 100000
namespace Go.Proofs.YteldpmgepfaiiaaGreatDoor
open Go.RowKit
attribute [local go_sem] dA bD aH aV cH
theorem Fx {B:St}{bx:Nat}{c:Cell}{X:Scp}{p1 p2:Own}(n1:ay p1 bx)(n2:ay p2 bx)(hW:X.ds.length=X.vs.length):ScO (B.set bx c) p1 p2 X=((B.own p1 9 1 X.vs.length).own p2 9 1 X.vs.length).set bx c:=by
 unfold ScO;rw[aZ n1,aZ n2,hW]
theorem CF {B:St}{bx:Nat}{c:Cell}{X:Scp}{p1 p2:Own}(h1:OwnOk B p1 X.vs.length)(h2:OwnOk (B.own p1 9 1 X.vs.length) p2 X.vs.length)(n1:ay p1 bx)(n2:ay p2 bx)(hW:X.ds.length=X.vs.length):ScK (B.set bx c) p1 p2 X:=by
 refine⟨?_,?_⟩
 ·cases p1 with
  |at_ b=>show (B.set bx c) b=.free;rw[k_ _ _ (fun e=>n1 e.symm)];exact h1
  |_=>exact h1
 ·rw[aZ n1,hW]
  cases p2 with
  |at_ b=>show ((B.own p1 _ _ _).set bx c) b=.free;rw[k_ _ _ (fun e=>n2 e.symm)];exact h2
  |_=>exact h2
theorem Fw {B:St}{bx bz:Nat}{c z:Cell}{X:Scp}{p1 p2:Own}(n1:ay p1 bx)(n2:ay p2 bx)(n3:ay p1 bz)(n4:ay p2 bz)(hW:X.ds.length=X.vs.length):ScO ((B.set bx c).set bz z) p1 p2 X=(((B.own p1 9 1 X.vs.length).own p2 9 1 X.vs.length).set bx c).set bz z:=by
 unfold ScO;rw[aZ n3,aZ n1,aZ n4,aZ n2,hW]
theorem Fy {B:St}{bx bz:Nat}{c z:Cell}{X:Scp}{p1 p2:Own}(h1:OwnOk B p1 X.vs.length)(h2:OwnOk (B.own p1 9 1 X.vs.length) p2 X.vs.length)(n1:ay p1 bx)(n2:ay p2 bx)(n3:ay p1 bz)(n4:ay p2 bz)(hW:X.ds.length=X.vs.length):ScK ((B.set bx c).set bz z) p1 p2 X:=by
 have hk:=CF (c:=c) h1 h2 n1 n2 hW
 refine⟨?_,?_⟩
 ·cases p1 with
  |at_ b=>show ((B.set bx c).set bz z) b=.free;rw[k_ _ _ (fun e=>n3 e.symm)];exact hk.1
  |_=>exact hk.1
 ·rw[aZ n3]
  cases p2 with
  |at_ b=>show (((B.set bx c).own p1 _ _ _).set bz z) b=.free;rw[k_ _ _ (fun e=>n4 e.symm)];exact hk.2
  |_=>exact hk.2
section
variable (x : Pgm) (a : Atm) (o0 : Own) (hx : x.doms.length <= 140737488355328) (hc : x.decls.length <= 140737488355328) (ha : a.ts.length <= 100000)
include hx hc ha
variable (B : St) (bx : Nat) (c : Cell) (X : Scp) (p1 p2 : Own) (h1 : OwnOk B p1 X.vs.length) (h2 : OwnOk (B.own p1 9 1 X.vs.length) p2 X.vs.length) (n1 : ay p1 bx) (n2 : ay p2 bx) (hW : X.ds.length = X.vs.length) (hX : X.vs.length <= 10000000)
include h1 h2 n1 n2 hW hX
theorem zP {e:Int}(h:bU x X a=.error e):SCalls Tryz.prog 82 [.agg (pgC x),.agg [.lst (aA X.vs) p1,.lst (aA X.ds) p2],.agg [.bool a.not,.str a.rel,.lst (a.ts.map aC) o0]] (((B.own p1 9 1 X.vs.length).own p2 9 1 X.vs.length).set bx c) fun w u=>
  ∃q:Scp×Own×Own,w=.ret (.tup [.agg [.lst (aA q.1.vs) q.2.1,.lst (aA q.1.ds) q.2.2],.int .i64 e])/\u=B.set bx c/\True:=by
 have hk:=CF (c:=c) h1 h2 n1 n2 hW
 have:=jF (B.set bx c) x X p1 p2 o0 a hk hx hc hW ha hX
 rw[h,Fx n1 n2 hW]at this
 exact this.mono fun w u ⟨_,Z,p1,p2,h1,h2⟩=>⟨(Z,p1,p2),h1,h2,trivial⟩
variable (bz : Nat) (z : Cell) (n3 : ay p1 bz) (n4 : ay p2 bz)
include n3 n4
theorem zO {e:Int}(h:bU x X a=.error e):SCalls Tryz.prog 82 [.agg (pgC x),.agg [.lst (aA X.vs) p1,.lst (aA X.ds) p2],.agg [.bool a.not,.str a.rel,.lst (a.ts.map aC) o0]] ((((B.own p1 9 1 X.vs.length).own p2 9 1 X.vs.length).set bx c).set bz z) fun w u=>
  ∃q:Scp×Own×Own,w=.ret (.tup [.agg [.lst (aA q.1.vs) q.2.1,.lst (aA q.1.ds) q.2.2],.int .i64 e])/\u=(B.set bx c).set bz z/\True:=by
 have hk:=Fy (c:=c) (z:=z) h1 h2 n1 n2 n3 n4 hW
 have:=jF ((B.set bx c).set bz z) x X p1 p2 o0 a hk hx hc hW ha hX
 rw[h,Fw n1 n2 n3 n4 hW]at this
 exact this.mono fun w u ⟨_,Z,p1,p2,h1,h2⟩=>⟨(Z,p1,p2),h1,h2,trivial⟩
end
section
variable (x : Pgm) (a : Atm) (o0 : Own) (hx : x.doms.length <= 140737488355328) (hc : x.decls.length <= 140737488355328) (ha : a.ts.length <= 100000)
include hx hc ha
theorem zQ (T:St){e:Int}(h:bU x ⟨[],[]⟩ a=.error e):SCalls Tryz.prog 82 [.agg (pgC x),.agg [.lst [] .full,.lst [] .full],.agg [.bool a.not,.str a.rel,.lst (a.ts.map aC) o0]] T fun w u=>
  ∃q:Scp×Own×Own,w=.ret (.tup [.agg [.lst (aA q.1.vs) q.2.1,.lst (aA q.1.ds) q.2.2],.int .i64 e])/\u=T/\True:=by
 have:=jF T x ⟨[],[]⟩ .full .full o0 a ⟨b9,b9⟩ hx hc rfl ha (by simp)
 rw[h]at this
 exact this.mono fun w u ⟨_,Z,p1,p2,h1,h2⟩=>⟨(Z,p1,p2),h1,h2,trivial⟩
theorem zN (T:St){Y:Scp}(h:bU x ⟨[],[]⟩ a=.ok Y):SCalls Tryz.prog 82 [.agg (pgC x),.agg [.lst [] .full,.lst [] .full],.agg [.bool a.not,.str a.rel,.lst (a.ts.map aC) o0]] T fun w u=>
  ∃q:Own×Own,w=.ret (.tup [.agg [.lst (aA Y.vs) q.1,.lst (aA Y.ds) q.2],.int .i64 0])/\u=(T.own q.1 9 1 Y.vs.length).own q.2 9 1 Y.vs.length/\OwnOk T q.1 Y.vs.length/\OwnOk (T.own q.1 9 1 Y.vs.length) q.2 Y.vs.length:=by
 have:=jF T x ⟨[],[]⟩ .full .full o0 a ⟨b9,b9⟩ hx hc rfl ha (by simp)
 rw[h]at this
 exact this.mono fun w u ⟨p1,p2,h1,h2,h3,h4⟩=>⟨(p1,p2),h1,by rw[h2];unfold ScO;rw[h4],h3.1,by have:=h3.2;rw[h4]at this;exact this⟩
variable (B : St) (bx : Nat) (c : Cell) (X : Scp) (p1 p2 : Own) (hbx : B bx = .free) (hf : c ≠ .free) (h1 : OwnOk B p1 X.vs.length) (h2 : OwnOk (B.own p1 9 1 X.vs.length) p2 X.vs.length) (n1 : ay p1 bx) (n2 : ay p2 bx) (hW : X.ds.length = X.vs.length) (hX : X.vs.length <= 10000000)
include hbx hf h1 h2 n1 n2 hW hX
theorem zM {Y:Scp}(h:bU x X a=.ok Y):SCalls Tryz.prog 82 [.agg (pgC x),.agg [.lst (aA X.vs) p1,.lst (aA X.ds) p2],.agg [.bool a.not,.str a.rel,.lst (a.ts.map aC) o0]] (((B.own p1 9 1 X.vs.length).own p2 9 1 X.vs.length).set bx c) fun w u=>
  ∃q:Own×Own,w=.ret (.tup [.agg [.lst (aA Y.vs) q.1,.lst (aA Y.ds) q.2],.int .i64 0])/\u=((B.own q.1 9 1 Y.vs.length).own q.2 9 1 Y.vs.length).set bx c/\OwnOk B q.1 Y.vs.length/\OwnOk (B.own q.1 9 1 Y.vs.length) q.2 Y.vs.length/\ay q.1 bx/\ay q.2 bx:=by
 have hk:=CF (c:=c) h1 h2 n1 n2 hW
 have:=jF (B.set bx c) x X p1 p2 o0 a hk hx hc hW ha hX
 rw[h,Fx n1 n2 hW]at this
 refine this.mono fun w u ⟨q1,q2,g1,g2,g3,g4⟩=>⟨(q1,q2),g1,?_,?_,?_,?_⟩
 ·have m1:ay q1 bx:=g3.1.not (by rw[q_];exact hf)
  have m2:ay q2 bx:=g3.2.not (by rw[c7 m1,q_];exact hf)
  rw[g2];unfold ScO;rw[aZ m1,aZ m2,g4]
 ·exact g3.1.fg (v_ _ hbx)
 ·have:=g3.2;rw[g4]at this;exact this.fg (Fg.ownm (v_ _ hbx))
 ·have m1:ay q1 bx:=g3.1.not (by rw[q_];exact hf)
  exact⟨m1,g3.2.not (by rw[c7 m1,q_];exact hf)⟩
variable (bz : Nat) (z : Cell) (hbz : B bz = .free) (hzx : ¬ bz = bx) (hz : z ≠ .free) (n3 : ay p1 bz) (n4 : ay p2 bz)
include hbz hzx hz n3 n4
theorem zL {Y:Scp}(h:bU x X a=.ok Y):SCalls Tryz.prog 82 [.agg (pgC x),.agg [.lst (aA X.vs) p1,.lst (aA X.ds) p2],.agg [.bool a.not,.str a.rel,.lst (a.ts.map aC) o0]] ((((B.own p1 9 1 X.vs.length).own p2 9 1 X.vs.length).set bx c).set bz z) fun w u=>
  ∃q:Own×Own,w=.ret (.tup [.agg [.lst (aA Y.vs) q.1,.lst (aA Y.ds) q.2],.int .i64 0])/\u=(((B.own q.1 9 1 Y.vs.length).own q.2 9 1 Y.vs.length).set bx c).set bz z/\OwnOk B q.1 Y.vs.length/\OwnOk (B.own q.1 9 1 Y.vs.length) q.2 Y.vs.length/\(ay q.1 bx/\ay q.2 bx)/\(ay q.1 bz/\ay q.2 bz):=by
 have hk:=Fy (c:=c) (z:=z) h1 h2 n1 n2 n3 n4 hW
 have:=jF ((B.set bx c).set bz z) x X p1 p2 o0 a hk hx hc hW ha hX
 rw[h,Fw n1 n2 n3 n4 hW]at this
 refine this.mono fun w u ⟨q1,q2,g1,g2,g3,g4⟩=>?_
 have hF:Fg ((B.set bx c).set bz z) B:=(v_ _ (by rw[k_ _ _ hzx];exact hbz)).trans (v_ _ hbx)
 have k2:=g3.2
 rw[g4]at k2
 have ex:((B.set bx c).set bz z) bx=c:=by rw[k_ _ _ (fun e=>hzx e.symm),q_]
 have m1:ay q1 bx:=g3.1.not (by rw[ex];exact hf)
 have m2:ay q2 bx:=k2.not (by rw[c7 m1,ex];exact hf)
 have m3:ay q1 bz:=g3.1.not (by rw[q_];exact hz)
 have m4:ay q2 bz:=k2.not (by rw[c7 m3,q_];exact hz)
 refine⟨(q1,q2),g1,?_,g3.1.fg hF,k2.fg (Fg.ownm hF),⟨m1,m2⟩,m3,m4⟩
 rw[g2];unfold ScO;rw[aZ m3,aZ m1,aZ m4,aZ m2,g4]
end
theorem ym {l:List Atm}{a:Atm}(h:a∈l)(hn:a.not=false):cM l a=true:=by
 unfold cM
 rw[List.all_eq_true]
 intro t ht
 cases hv:t.var with
 |false=>rfl
 |true=>
  simp only[Bool.not_true,Bool.false_or]
  unfold c8
  rw[List.any_eq_true]
  refine⟨a,h,?_⟩
  rw[hn,Bool.not_false,Bool.true_and,List.any_eq_true]
  exact⟨t,ht,by simp[hv]⟩
theorem yp {l:List Atm}:l.all (cM l)=l.all fun a=>!a.not || cM l a:=by
 rw[Bool.eq_iff_iff,List.all_eq_true,List.all_eq_true]
 constructor
 ·intro h a ha;rw[h a ha];simp
 ·intro h a ha
  cases hn:a.not with
  |false=>exact ym ha hn
  |true=>have:=h a ha;rw[hn]at this;simpa using this
def lq (r:Except Int Scp):VV:=match r with|.ok Y=>.tup [.agg [.lst (aA Y.vs) .no,.lst (aA Y.ds) .no],.int .i64 0]|.error e=>.tup [.agg [.lst [] .no,.lst [] .no],.int .i64 e]
theorem mX {o1 o2:Own}{e:Int}:Wk (.tup [.agg [.lst [] o1,.lst [] o2],.int .i64 e]) (lq (.error e)):=
 Wk.tup rfl fun j x y hx hy=>by
  match j with
  |0=>simp at hx hy;subst hx;subst hy;exact Wk.agg (.lst _ _ (.lst _ _ .nil))
  |1=>simp at hx hy;subst hx;subst hy;exact Wk.refl _
  |j+2=>simp at hx
theorem FD {o1 o2:Own}{Y:Scp}:Wk (.tup [.agg [.lst (aA Y.vs) o1,.lst (aA Y.ds) o2],.int .i64 0]) (lq (.ok Y)):=
 Wk.tup rfl fun j x y hx hy=>by
  match j with
  |0=>simp at hx hy;subst hx;subst hy;exact Wk.agg (.lst _ _ (.lst _ _ .nil))
  |1=>simp at hx hy;subst hx;subst hy;exact Wk.refl _
  |j+2=>simp at hx
set_option maxHeartbeats 8000000 in
theorem uu (T:St)(x:Pgm)(r:Rul)(hx:x.doms.length<=140737488355328)(hc:x.decls.length<=140737488355328)(hb:r.body.length<=10)(ha:∀a,a=r.head\/a∈r.body->a.ts.length<=100000) :
  SRet Tryz.prog 54 [.agg (pgC x),.agg (ax r)] T (lq (bJ x r)) T:=by
 have s1:=fun t=>yb t r r.head .no (by omega) (Nat.le_trans (ha _ (.inl rfl)) (by omega)) (fun c hc=>Nat.le_trans (ha _ (.inr hc)) (by omega))
 have s2:=fun a (h:a∈r.body) t=>yb t r a .no (by omega) (Nat.le_trans (ha _ (.inr h)) (by omega)) (fun c hc=>Nat.le_trans (ha _ (.inr hc)) (by omega))
 have S2:=u_ s2
 clear s2
 have HA:=u_ ha
 have hah:=ha _ (.inl rfl)
 clear ha
 generalize hR:bJ x r=R
 unfold bJ at hR
 have h1no:=fun t e (h:bU x ⟨[],[]⟩ r.head=.error e)=>zQ x r.head .no hx hc hah t h
 have h1ok:=fun t Y (h:bU x ⟨[],[]⟩ r.head=.ok Y)=>zN x r.head .no hx hc hah t h
 have H1N:=u_ h1no
 have H1O:=u_ h1ok
 clear h1no h1ok
 have hlb:(r.body.map aG).length=r.body.length:=by simp
 obtain⟨⟨hn,hrel,hts⟩,body⟩:=r
 simp only at hb hah hlb s1
 simp only[ax]
 simp only[ax]at s1 S2
 cases h1:bU x ⟨[],[]⟩ ⟨hn,hrel,hts⟩with
 |error e=>
  simp only[h1,jb]at hR
  subst hR
  have hen:=fL h1
  have w1:=fun t=>H1N.out t e h1
  simp only[pgC]at w1 ⊢
  clear h1
  have hef:(e=0)=False:=eq_false hen
  refine aw Tryz.func54 rfl Tryz.ntmps54 rfl fun Q hQ hQe=>?_
  (repeat'(first|refine Ctl ?_|((with_reducible refine j_ hK ?_);clear hK hE K E)|((with_reducible refine aj (fun h=>?_) (fun h=>?_))<;>(try(exfalso;assumption)))|((first|(with_reducible refine ae fun K E hK hE=>?_)|((with_reducible refine aO qm (w1 _) (fun a h=>?_)))|((with_reducible refine ao (fun b hb=>?_));(repeat(obtain⟨_,hb⟩:=hb))))<;>(try simp(disch:=first|assumption|omega) only[go_sem,seval,hlb, *]))))
  all_goals(refine ap nL hQ ?_)
  exact⟨_,T,mX,bC,rfl,rfl⟩
 |ok X=>
  simp only[h1,dX]at hR
  have hWX:=(lc h1 (show WfS ⟨[],[]⟩ from rfl))
  simp only[List.length_nil,Nat.zero_add]at hWX
  obtain⟨hWX,hXl⟩:=hWX
  have hWX2:X.ds.length=X.vs.length:=hWX
  have w1:=fun t=>H1O.out t X h1
  simp only[pgC]at w1 ⊢
  clear h1
  refine aw Tryz.func54 rfl Tryz.ntmps54 rfl fun Q hQ hQe=>?_
  (repeat'(first|refine Ctl ?_|((with_reducible refine j_ hK ?_);clear hK hE K E)|((with_reducible refine aj (fun h=>?_) (fun h=>?_))<;>(try(exfalso;assumption)))|((first|(with_reducible refine ae fun K E hK hE=>?_)|((with_reducible refine aO qm (w1 _) (fun a h=>?_)))|((with_reducible refine ao (fun b hb=>?_));(repeat(obtain⟨_,hb⟩:=hb));(try(try(rw[aR,aR]at hb;obtain⟨_,_,hb⟩:=hb)))))<;>(try simp(disch:=omega) only[go_sem,seval,hlb, *]))))
  rename_i bp hbp brl l1 l2 hbrl bres c1 c2 c3 c4 hbres hq m1 m2 d1 d2 d3 d4 d5 d6
  obtain⟨bx,hbxe⟩:∃z,z=b:=⟨_,rfl⟩
  subst hbxe
  obtain⟨hq1,hq2⟩:=hq
  have hBp:(((T.set bp (.obj 26 [.lst (x.doms.map dmC) .no,.lst (x.decls.map az) .no,.lst (x.rules.map ax) .no])).set brl (.obj 43 [.bool hn,.str hrel,.lst (hts.map aC) .no,.lst (body.map aG) .no])).set bres (.obj 114 [.lst [] .full,.lst [] .full])) bp=(.obj 26 [.lst (x.doms.map dmC) .no,.lst (x.decls.map az) .no,.lst (x.rules.map ax) .no]):=by rw[k_ _ _ c4,k_ _ _ l2,q_]
  have hBl:(((T.set bp (.obj 26 [.lst (x.doms.map dmC) .no,.lst (x.decls.map az) .no,.lst (x.rules.map ax) .no])).set brl (.obj 43 [.bool hn,.str hrel,.lst (hts.map aC) .no,.lst (body.map aG) .no])).set bres (.obj 114 [.lst [] .full,.lst [] .full])) brl=(.obj 43 [.bool hn,.str hrel,.lst (hts.map aC) .no,.lst (body.map aG) .no]):=by rw[k_ _ _ c2,q_]
  have hBr:(((T.set bp (.obj 26 [.lst (x.doms.map dmC) .no,.lst (x.decls.map az) .no,.lst (x.rules.map ax) .no])).set brl (.obj 43 [.bool hn,.str hrel,.lst (hts.map aC) .no,.lst (body.map aG) .no])).set bres (.obj 114 [.lst [] .full,.lst [] .full])) bres=(.obj 114 [.lst [] .full,.lst [] .full]):=q_ _ _ _
  have hBx:(((T.set bp (.obj 26 [.lst (x.doms.map dmC) .no,.lst (x.decls.map az) .no,.lst (x.rules.map ax) .no])).set brl (.obj 43 [.bool hn,.str hrel,.lst (hts.map aC) .no,.lst (body.map aG) .no])).set bres (.obj 114 [.lst [] .full,.lst [] .full])) bx=.free:=by rw[k_ _ _ d1,k_ _ _ d3,k_ _ _ d5];exact hb
  have hF:Fg (((T.set bp (.obj 26 [.lst (x.doms.map dmC) .no,.lst (x.decls.map az) .no,.lst (x.rules.map ax) .no])).set brl (.obj 43 [.bool hn,.str hrel,.lst (hts.map aC) .no,.lst (body.map aG) .no])).set bres (.obj 114 [.lst [] .full,.lst [] .full])) T:=bC
  generalize (((T.set bp (.obj 26 [.lst (x.doms.map dmC) .no,.lst (x.decls.map az) .no,.lst (x.rules.map ax) .no])).set brl (.obj 43 [.bool hn,.str hrel,.lst (hts.map aC) .no,.lst (body.map aG) .no])).set bres (.obj 114 [.lst [] .full,.lst [] .full]))=B at *
  have HF:=u_ hF
  have HTR:=u_ hbres
  have HTX:=u_ hb
  have hBpf:B bp≠.free:=by rw[hBp];simp
  have hBlf:B brl≠.free:=by rw[hBl];simp
  have hBrf:B bres≠.free:=by rw[hBr];simp
  clear hF hb hbres hbrl hbp w1 H1N H1O
  generalize hR2:cL x X body=R2 at hR
  refine aI (fun m env s'=>∃(i:Nat) (Y:Scp) (p1 p2:Own),i<=body.length/\m+i=body.length/\Y.ds.length=Y.vs.length/\Y.vs.length<=100000*(i+1)/\Hid (cL x Y (body.drop i)=R2) /\
   OwnOk B p1 Y.vs.length/\OwnOk (B.own p1 9 1 Y.vs.length) p2 Y.vs.length/\ay p1 bx/\ay p2 bx /\
   s'=((B.own p1 9 1 Y.vs.length).own p2 9 1 Y.vs.length).set bx (.obj 114 [.lst (aA Y.vs) p1,.lst (aA Y.ds) p2]) /\
   env 2=.ptr bp 0/\env 3=.ptr brl 0/\env 4=.ptr bres 0/\env 6=.ptr bx 0/\env 8=.int .i64 i) body.length ?_ ?_
  ·exact⟨_,Fg.refl _,0,X,a.1,a.2,by omega,by omega,hWX2,by omega,u_ hR2,hq1,hq2,m2,m1,rfl,ab,ab,ab,ab,ab⟩
  clear hR2 hWX hWX2 hq1 hq2 m1 m2 hXl
  rintro m env s' ⟨i,Y,p1,p2,hi,hm,hWY,hYl,HI,hq1,hq2,hx1,hx2,rfl,e2,e3,e4,e6,e8⟩
  have k1p:=hq1.not hBpf
  have k1l:=hq1.not hBlf
  have k1r:=hq1.not hBrf
  have k2p:=hq2.not (b:=bp) (by rw[c7 k1p];exact hBpf)
  have k2l:=hq2.not (b:=brl) (by rw[c7 k1l];exact hBlf)
  have k2r:=hq2.not (b:=bres) (by rw[c7 k1r];exact hBrf)
  by_cases hlt:i<body.length
  ·obtain⟨c,hcb⟩:=aN hlt
   have hsx:=cX hcb
   have hI:=HI.out
   rw[g_ hlt,show body[i]=c by rw[b_ hlt]at hcb;injection hcb]at hI
   simp only[cL]at hI
   have hca:=HA.out c (.inr (p_ hcb))
   clear hcb HI
   cases h1:bU x Y c with
   |error e=>
    rw[h1,jb]at hI
    subst hI
    simp only[jb]at hR
    subst hR
    have hen:=fL h1
    have hef:(e=0)=False:=eq_false hen
    have wx:=zP x c .no hx hc hca B bx (.obj 114 [.lst (aA Y.vs) p1,.lst (aA Y.ds) p2]) Y p1 p2 hq1 hq2 hx1 hx2 hWY (by omega) h1
    have wz:=fun bz z n3 n4=>zO x c .no hx hc hca B bx (.obj 114 [.lst (aA Y.vs) p1,.lst (aA Y.ds) p2]) Y p1 p2 hq1 hq2 hx1 hx2 hWY (by omega) bz z n3 n4 h1
    simp only[pgC]at wx wz
    obtain⟨cn,cr,cts⟩:=c
    simp only at wx wz
    (repeat'(first|refine Ctl ?_|(with_reducible first|(refine j_ hK ?_;clear hK hE K E)|(refine j_ hKh ?_;clear hKh Kh)|(refine j_ hKb (aL ?_);clear hKb Kb)|refine jG 7 (.two [0,1,2,3,4,5,6] 7 [[]] (.one [8,9,10] 11 [[8,9,10],[]] (.one [] 12 [[],[10],[]] (.fin [13]))) 11 [[0,1,2,3,4,5,6]] (.one [] 7 [[],[]] (.one [8,9,10] 12 [[10],[],[]] (.fin [13])))) hQe fun K E hK hE=>?_)|((with_reducible refine aj (fun h=>?_) (fun h=>?_))<;>(try(exfalso;assumption)))|((first|(with_reducible first|refine ae fun K E hK hE=>?_|refine aM fun Kb hKb=>?_|refine jE fun Kh hKh=>?_|refine qy fun Kh hKh=>?_|refine qx fun Kh hKh=>?_|refine lP (fun Kb hKb=>?_) (fun Kb hKb=>?_))|((with_reducible refine aO qm (wx) (fun a h=>?_)))|((with_reducible refine aO qm (wz _ _ (‹_›) (‹_›)) (fun a h=>?_)))|((with_reducible refine ao (fun b hb=>?_));(repeat(obtain⟨_,hb⟩:=hb));(try((try(rw[aR,aR]at hb;obtain⟨_,_,hb⟩:=hb));obtain⟨_,_⟩:=nef hb hBpf;obtain⟨_,_⟩:=nef hb hBlf;obtain⟨_,_⟩:=nef hb hBrf))))<;>(try simp(disch:=first|assumption|omega) only[go_sem,seval,hlb,hsx,aG, *]))))
    all_goals(refine ap nL hQ ?_)
    all_goals exact⟨_,T,mX,w_ (w_ (w_ HF.out HTX.out) (HF.out.free hb)) HTR.out,rfl,rfl⟩
   |ok Z=>
    rw[h1,dX]at hI
    have HI2:=u_ hI
    obtain⟨hWZ,hZl⟩:=lc h1 (show WfS Y from hWY)
    have hWZ2:Z.ds.length=Z.vs.length:=hWZ
    have wx:=zM x c .no hx hc hca B bx (.obj 114 [.lst (aA Y.vs) p1,.lst (aA Y.ds) p2]) Y p1 p2 hBx (by simp) hq1 hq2 hx1 hx2 hWY (by omega) h1
    have wz:=fun bz z (hbz:B bz=.free) (hzx:¬ bz=bx) (hz:z≠.free) n3 n4=>zL x c .no hx hc hca B bx (.obj 114 [.lst (aA Y.vs) p1,.lst (aA Y.ds) p2]) Y p1 p2 hBx (by simp) hq1 hq2 hx1 hx2 hWY (by omega) bz z hbz hzx hz n3 n4 h1
    simp only[pgC]at wx wz
    clear hI h1
    obtain⟨cn,cr,cts⟩:=c
    simp only at wx wz
    (repeat'(first|refine Ctl ?_|(with_reducible first|(refine j_ hK ?_;clear hK hE K E)|(refine j_ hKh ?_;clear hKh Kh)|(refine j_ hKb (aL ?_);clear hKb Kb)|refine jG 7 (.two [0,1,2,3,4,5,6] 7 [[]] (.one [8,9,10] 11 [[8,9,10],[]] (.one [] 12 [[],[10],[]] (.fin [13]))) 11 [[0,1,2,3,4,5,6]] (.one [] 7 [[],[]] (.one [8,9,10] 12 [[10],[],[]] (.fin [13])))) hQe fun K E hK hE=>?_)|((with_reducible refine aj (fun h=>?_) (fun h=>?_))<;>(try(exfalso;assumption)))|((first|(with_reducible first|refine ae fun K E hK hE=>?_|refine aM fun Kb hKb=>?_|refine jE fun Kh hKh=>?_|refine qy fun Kh hKh=>?_|refine qx fun Kh hKh=>?_|refine lP (fun Kb hKb=>?_) (fun Kb hKb=>?_))|((with_reducible refine aO qm (wx) (fun a h=>?_));(obtain⟨g1,g2,g3,g4⟩:=h))|((with_reducible refine aO qm (wz _ _ (‹_›) (‹_›) (by simp) (‹_›) (‹_›)) (fun a h=>?_));(obtain⟨g1,g2,g3,g4⟩:=h;(try obtain⟨g5,g6⟩:=g4);(try obtain⟨g3,g7⟩:=g3)))|((with_reducible refine ao (fun b hb=>?_));(repeat(obtain⟨_,hb⟩:=hb));(try((try(rw[aR,aR]at hb;obtain⟨_,_,hb⟩:=hb));obtain⟨_,_⟩:=nef hb hBpf;obtain⟨_,_⟩:=nef hb hBlf;obtain⟨_,_⟩:=nef hb hBrf))))<;>(try simp(disch:=first|assumption|omega) only[go_sem,seval,hlb,hsx,aG, *]))))
    all_goals exact⟨_,v_ _ (by rw[k_ _ _ (‹_›),aR,aR];exact⟨‹_›,‹_›,hb⟩),m - 1,by omega,i+1,Z,a.1,a.2,by omega,by omega,hWZ2,by omega,HI2,g1,g2,‹_›,‹_›,rfl,ab,ab,ab,ab,ab⟩
  ·have hIe:=HI.out
   rw[show i=body.length by omega,G_]at hIe
   simp only[cL]at hIe
   subst hIe
   rw[dX]at hR
   clear HI
   have hSp:(((B.own p1 9 1 Y.vs.length).own p2 9 1 Y.vs.length).set bx (.obj 114 [.lst (aA Y.vs) p1,.lst (aA Y.ds) p2])) bp=B bp:=by rw[k_ _ _ (nef hBx hBpf).1,c7 k2p,c7 k1p]
   have hSl:(((B.own p1 9 1 Y.vs.length).own p2 9 1 Y.vs.length).set bx (.obj 114 [.lst (aA Y.vs) p1,.lst (aA Y.ds) p2])) brl=B brl:=by rw[k_ _ _ (nef hBx hBlf).1,c7 k2l,c7 k1l]
   have hSr:(((B.own p1 9 1 Y.vs.length).own p2 9 1 Y.vs.length).set bx (.obj 114 [.lst (aA Y.vs) p1,.lst (aA Y.ds) p2])) bres=B bres:=by rw[k_ _ _ (nef hBx hBrf).1,c7 k2r,c7 k1r]
   have hSx:(((B.own p1 9 1 Y.vs.length).own p2 9 1 Y.vs.length).set bx (.obj 114 [.lst (aA Y.vs) p1,.lst (aA Y.ds) p2])) bx=(.obj 114 [.lst (aA Y.vs) p1,.lst (aA Y.ds) p2]):=q_ _ _ _
   rw[hBp]at hSp
   rw[hBl]at hSl
   rw[hBr]at hSr
   have hFS:Fg (((B.own p1 9 1 Y.vs.length).own p2 9 1 Y.vs.length).set bx (.obj 114 [.lst (aA Y.vs) p1,.lst (aA Y.ds) p2])) T:=w_ (((Fg.own hq2).trans (Fg.own hq1)).trans HF.out) HTX.out
   generalize (((B.own p1 9 1 Y.vs.length).own p2 9 1 Y.vs.length).set bx (.obj 114 [.lst (aA Y.vs) p1,.lst (aA Y.ds) p2]))=S at *
   have HFS:=u_ hFS
   have hlv:(aA Y.vs).length=Y.vs.length:=by simp[aA]
   clear hFS hq1 hq2 k1p k1l k1r k2p k2l k2r hx1 hx2 hBp hBl hBr hBx hBpf hBlf hBrf HF HTX
   have hR3:R=if (cM body ⟨hn,hrel,hts⟩ && body.all (fun a=>!a.not || cM body a))=false then .error 125 else if 8<Y.vs.length then .error 2 else .ok Y:=by
    rw[<- hR,yp]
   clear hR
   have HR3:=u_ hR3
   clear hR3
   generalize hw:cM body ⟨hn,hrel,hts⟩=W at *
   have HW:=u_ hw
   clear hw
   cases W
   ·have hE:R=.error 125:=by rw[HR3.out];rfl
    subst hE
    (repeat'(first|refine Ctl ?_|((with_reducible refine j_ hK ?_);clear hK hE K E)|((with_reducible refine aj (fun h=>?_) (fun h=>?_))<;>(try(exfalso;assumption)))|(((with_reducible first|refine ae fun K E hK hE=>?_|refine ak xM (s1 _) ?_))<;>(try simp(disch:=omega) only[go_sem,seval,hlb, *]))))
    all_goals(refine ap nL hQ ?_)
    all_goals exact⟨_,T,mX,w_ HFS.out HTR.out,rfl,rfl⟩
   ·(repeat'(first|refine Ctl ?_|((with_reducible refine j_ hK ?_);clear hK hE K E)|((with_reducible refine aj (fun h=>?_) (fun h=>?_))<;>(try(exfalso;assumption)))|(((with_reducible first|refine ae fun K E hK hE=>?_|refine ak xM (s1 _) ?_))<;>(try simp(disch:=omega) only[go_sem,seval,hlb, *]))))
    refine aI (fun m env s'=>∃i:Nat,i<=body.length/\m+i=body.length/\s'=S/\Hid ((body.take i).all (fun a=>!a.not || cM body a)=true)/\env 2=.ptr bp 0/\env 3=.ptr brl 0/\env 4=.ptr bres 0/\env 6=.ptr bx 0/\env 11=.int .i64 i) body.length ?_ ?_
    ·exact⟨_,Fg.refl _,0,by omega,by omega,rfl,u_ rfl,ab,ab,ab,ab,ab⟩
    clear e2 e3 e4 e6 e8 env hm hi hlt hYl m i
    rintro m env s' ⟨i,hi,hm,rfl,HL,e2,e3,e4,e6,e11⟩
    by_cases hlt:i<body.length
    ·obtain⟨c,hcb⟩:=aN hlt
     have hsx:=cX hcb
     have HC:=u_ hcb
     have w5:=S2.out c (p_ hcb)
     clear hcb
     generalize hwc:cM body c=V at *
     have HWC:=u_ hwc
     clear hwc
     obtain⟨cn,cr,cts⟩:=c
     simp only at w5
     cases cn
     ·(repeat'(first|refine Ctl ?_|(with_reducible first|(refine j_ hK ?_;clear hK hE K E)|(refine j_ hKh ?_;clear hKh Kh)|(refine j_ hKb (aL ?_);clear hKb Kb)|refine aq 16 [([0,1,2,3,4,5,6,7,8,9,10,11,12],13,[[]])] [14,15] hQe fun K E hK hE=>?_)|((with_reducible refine aj (fun h=>?_) (fun h=>?_))<;>(try(exfalso;assumption)))|(((with_reducible first|refine ae fun K E hK hE=>?_|refine aE fun Kh hKh=>?_|refine aD fun Kh hKh=>?_|refine aM fun Kb hKb=>?_))<;>(try simp(disch:=omega) only[go_sem,seval,hlb,hsx,aG, *]))))
      exact⟨_,Fg.refl _,m - 1,by omega,i+1,by omega,by omega,rfl,u_ (bE HL.out HC.out rfl),ab,ab,ab,ab,ab⟩
     ·cases V
      ·have hE:R=.error 125:=by
        rw[HR3.out,if_pos]
        rw[Bool.true_and]
        exact bO HC.out (by rw[HWC.out];rfl)
       subst hE
       (repeat'(first|refine Ctl ?_|(with_reducible first|(refine j_ hK ?_;clear hK hE K E)|(refine j_ hKh ?_;clear hKh Kh)|(refine j_ hKb (aL ?_);clear hKb Kb)|refine aq 16 [([0,1,2,3,4,5,6,7,8,9,10,11,12],13,[[]])] [14,15] hQe fun K E hK hE=>?_)|((with_reducible refine aj (fun h=>?_) (fun h=>?_))<;>(try(exfalso;assumption)))|(((with_reducible first|refine ae fun K E hK hE=>?_|refine ak xM (w5 _) ?_|refine aE fun Kh hKh=>?_|refine aD fun Kh hKh=>?_|refine aM fun Kb hKb=>?_))<;>(try simp(disch:=omega) only[go_sem,seval,hlb,hsx,aG, *]))))
       all_goals(refine ap nL hQ ?_)
       all_goals exact⟨_,T,mX,w_ HFS.out HTR.out,rfl,rfl⟩
      ·(repeat'(first|refine Ctl ?_|(with_reducible first|(refine j_ hK ?_;clear hK hE K E)|(refine j_ hKh ?_;clear hKh Kh)|(refine j_ hKb (aL ?_);clear hKb Kb)|refine aq 16 [([0,1,2,3,4,5,6,7,8,9,10,11,12],13,[[]])] [14,15] hQe fun K E hK hE=>?_)|((with_reducible refine aj (fun h=>?_) (fun h=>?_))<;>(try(exfalso;assumption)))|(((with_reducible first|refine ae fun K E hK hE=>?_|refine ak xM (w5 _) ?_|refine aE fun Kh hKh=>?_|refine aD fun Kh hKh=>?_|refine aM fun Kb hKb=>?_))<;>(try simp(disch:=omega) only[go_sem,seval,hlb,hsx,aG, *]))))
       exact⟨_,Fg.refl _,m - 1,by omega,i+1,by omega,by omega,rfl,u_ (bE HL.out HC.out (by rw[HWC.out];rfl)),ab,ab,ab,ab,ab⟩
    ·have hL:=HL.out
     rw[B_ (by omega)]at hL
     have hR4:R=if 8<Y.vs.length then .error 2 else .ok Y:=by
      rw[HR3.out,hL];rfl
     clear hL HL
     by_cases h8:8<Y.vs.length
     ·rw[if_pos h8]at hR4
      subst hR4
      (repeat'(first|refine Ctl ?_|((with_reducible refine j_ hK ?_);clear hK hE K E)|((with_reducible refine aj (fun h=>?_) (fun h=>?_))<;>(try(exfalso;first|assumption|omega)))|(((with_reducible refine ae fun K E hK hE=>?_))<;>(try simp(disch:=omega) only[go_sem,seval,hlb,hlv, *]))))
      all_goals(refine ap nL hQ ?_)
      all_goals exact⟨_,T,mX,w_ HFS.out HTR.out,rfl,rfl⟩
     ·rw[if_neg h8]at hR4
      subst hR4
      (repeat'(first|refine Ctl ?_|((with_reducible refine j_ hK ?_);clear hK hE K E)|((with_reducible refine aj (fun h=>?_) (fun h=>?_))<;>(try(exfalso;first|assumption|omega)))|(((with_reducible refine ae fun K E hK hE=>?_))<;>(try simp(disch:=omega) only[go_sem,seval,hlb,hlv, *]))))
      all_goals(refine ap nL hQ ?_)
      all_goals exact⟨_,T,FD,w_ HFS.out HTR.out,rfl,rfl⟩
end Go.Proofs.YteldpmgepfaiiaaGreatDoor
namespace Go.Proofs.YteldpmgepfaiiaaGreatDoor
open Go.RowKit
def RelOk (x:Pgm):Prop:=∀r,r∈x.rules->(ixR x r.head.rel<x.decls.length/\eI x.decls r.head.rel=(ixR x r.head.rel:Int))/\∀a,a∈r.body->ixR x a.rel<x.decls.length/\eI x.decls a.rel=(ixR x a.rel:Int)
theorem uX {E F:List Edg}{l:List Nat}:cG (E++F) l=cG F (cG E l):=by unfold cG;rw[List.foldl_append]
theorem As {m:Nat}{l:List Nat}{e:Edg}(hw:e.w<=1)(h:∀i,gt l i<=m)(i:Nat):gt (fR l e) i<=m+1:=by
 unfold fR
 by_cases hl:e.h<l.length
 ·rw[i8 hl]
  split
  ·have:=h e.h;have:=h e.b;omega
  ·have:=h i;omega
 ·rw[List.set_eq_of_length_le (by omega)];have:=h i;omega
theorem xl {v u:Nat}:eC true (.int .i64 (v:Int)) (.int .i64 (u:Int))=some (.int .i64 ((max v u:Nat):Int)):=by
 simp only[eC,if_true]
 congr 2
 by_cases h:v<u
 ·rw[if_pos (by omega),Nat.max_eq_right (by omega)]
 ·rw[if_neg (by omega),Nat.max_eq_left (by omega)]
set_option maxHeartbeats 8000000 in
theorem CL (T:St)(x:Pgm)(l:List Nat)(o:Own)(hR:RelOk x)(hc:x.decls.length<=32)(hr:x.rules.length<=64)(hb:∀r,r∈x.rules->r.body.length<=10)(hl:l.length=x.decls.length)(hlt:∀i,gt l i<=1000) :
  SRet Tryz.prog 111 [.agg (pgC x),.lst (iL l) o] T (.lst (iL (cG (eJ x) l)) .no) T:=by
 have w3:=fun n s=>lR x n (by omega) s
 have hil:(iL l).length=x.decls.length:=by rw[vE];exact hl
 have hlr:(x.rules.map ax).length=x.rules.length:=by simp
 have HB:=u_ hb
 have HR:=u_ hR
 have HLT:=u_ hlt
 clear hb hR hlt
 simp only[pgC]at w3 ⊢
 refine aw Tryz.func111 rfl Tryz.ntmps111 rfl fun Q hQ hQe=>?_
 (repeat'(first|refine Ctl ?_|((with_reducible refine j_ hK ?_);clear hK hE K E)|((first|(with_reducible first|refine ae fun K E hK hE=>?_|refine mB ?_)|((with_reducible refine ao (fun b hb=>?_));(repeat(obtain⟨_,hb⟩:=hb))))<;>(try simp(disch:=omega) only[go_sem,seval,hil, *]))))
 rename_i bp hbp _ _
 obtain⟨bo,hbo⟩:∃z,z=b:=⟨_,rfl⟩
 subst hbo
 have hSp:(T.set bp (.obj 26 [.lst (x.doms.map dmC) .no,.lst (x.decls.map az) .no,.lst (x.rules.map ax) .no])) bp=(.obj 26 [.lst (x.doms.map dmC) .no,.lst (x.decls.map az) .no,.lst (x.rules.map ax) .no]):=q_ _ _ _
 have hSo:(T.set bp (.obj 26 [.lst (x.doms.map dmC) .no,.lst (x.decls.map az) .no,.lst (x.rules.map ax) .no])) bo=.free:=by rw[k_ _ _ (‹_›)];exact hb
 have hF:Fg (T.set bp (.obj 26 [.lst (x.doms.map dmC) .no,.lst (x.decls.map az) .no,.lst (x.rules.map ax) .no])) T:=v_ _ hbp
 generalize T.set bp (.obj 26 [.lst (x.doms.map dmC) .no,.lst (x.decls.map az) .no,.lst (x.rules.map ax) .no])=S at *
 have HF:=u_ hF
 have hSpf:S bp≠.free:=by rw[hSp];simp
 clear hF hb hbp
 generalize hn:x.decls.length=n at *
 rw[rc]
 refine aI (fun m env s'=>∃(i:Nat) (L:List Nat),i<=n/\m+i=n/\L.length=n/\Hid (∀j,j<i->gt L j=gt l j)/\s'=S.set bo (.obj 3 (nts L))/\env 1=.lst (iL l) o/\env 2=.ptr bp 0/\env 5=.msl bo n/\env 6=.int .i64 i) n ?_ ?_
 ·exact⟨_,Fg.refl _,0,_,by omega,by omega,by simp,u_ (fun j hj=>by omega),rfl,ab,ab,ab,ab⟩
 rintro m env s' ⟨i,L,hi,hm,hLl,HL,rfl,e1,e2,e5,e6⟩
 by_cases hlt:i<n
 ·have hli:=Bx (l:=l) (i:=i) (by omega)
  have hnl:(nts L).length=n:=by rw[kI];exact hLl
  (repeat'(first|refine Ctl ?_|((with_reducible refine j_ hK ?_);clear hK hE K E)|((with_reducible refine aj (fun h=>?_) (fun h=>?_))<;>(try(exfalso;assumption)))|(((with_reducible first|refine ae fun K E hK hE=>?_|refine gT ?_))<;>(try simp(disch:=omega) only[go_sem,seval,hil,hli,hnl, *]))))
  refine⟨_,Fg.refl _,m - 1,by omega,i+1,L.set i (gt l i),by omega,by omega,by rw[List.length_set];exact hLl,u_ (fun j hj=>?_),by rw[kH (by omega)],ab,ab,ab,ab⟩
  rw[i8 (by omega)]
  split
  ·rename_i e;rw[e]
  ·exact HL.out j (by omega)
 ·have hLe:L=l:=vv (by omega) (fun j hj=>HL.out j (by omega))
  subst hLe
  clear HL
  (repeat'(first|refine Ctl ?_|((with_reducible refine j_ hK ?_);clear hK hE K E)|((with_reducible refine aj (fun h=>?_) (fun h=>?_))<;>(try(exfalso;assumption)))|(((with_reducible refine ae fun K E hK hE=>?_))<;>(try simp(disch:=omega) only[go_sem,seval,hil, *]))))
  clear e6
  refine aI (fun m env s'=>∃(i:Nat) (M:List Nat),i<=x.rules.length/\m+i=x.rules.length/\M.length=n/\Hid (M=cG ((x.rules.take i).map (gd x)).flatten L)/\Hid (∀j,gt M j<=1000+10*i)/\s'=S.set bo (.obj 3 (nts M))/\env 2=.ptr bp 0/\env 5=.msl bo n/\env 7=.int .i64 i) x.rules.length ?_ ?_
  ·exact⟨_,Fg.refl _,0,L,by omega,by omega,hLl,u_ rfl,u_ (fun j=>by have:=HLT.out j;omega),rfl,ab,ab,ab⟩
  clear e1 e2 e5 env hm hi hlt m i
  rintro m env s' ⟨i,M,hi,hm,hMl,HM,HB2,rfl,e2,e5,e7⟩
  by_cases hlt:i<x.rules.length
  ·obtain⟨r,hri⟩:=aN hlt
   have hmem:=p_ hri
   have hsx:=fc hri
   obtain⟨⟨hh,hz⟩,hab⟩:=HR.out r hmem
   have hbl:=HB.out r hmem
   have HRI:=u_ hri
   have HAB:=u_ hab
   have hbb:(r.body.map aG).length=r.body.length:=by simp
   rw[hn]at hh
   clear hri hmem hab
   generalize hd0:ixR x r.head.rel=hd at *
   (repeat'(first|refine Ctl ?_|(with_reducible first|(refine j_ hK ?_;clear hK hE K E)|(refine j_ hKh ?_;clear hKh Kh)|(refine j_ hKb (aL ?_);clear hKb Kb)|refine aq 9 [([0,1,2,3,4,5,6,7],8,[[]])] [9] hQe fun K E hK hE=>?_)|((with_reducible refine aj (fun h=>?_) (fun h=>?_))<;>(try(exfalso;assumption)))|(((with_reducible first|refine ae fun K E hK hE=>?_|refine ak fm (w3 _ _) ?_|refine aE fun Kh hKh=>?_|refine aD fun Kh hKh=>?_|refine aM fun Kb hKb=>?_))<;>(try simp(disch:=omega) only[go_sem,seval,hlr,hsx,ax,hz, *]))))
   refine aI (fun m' env s'=>∃(k:Nat) (M:List Nat),k<=r.body.length/\m'+k=r.body.length/\M.length=n/\Hid (M=cG (((x.rules.take i).map (gd x)).flatten++((r.body.take k).map fun a=>(⟨hd,ixR x a.rel,if a.not=true then 1 else 0⟩:Edg))) L)/\Hid (∀j,gt M j<=1000+10*i+k)/\s'=S.set bo (.obj 3 (nts M)) /\
    env 2=.ptr bp 0/\env 5=.msl bo n/\env 7=.int .i64 i/\env 8=.int .i64 hd/\env 9=.int .i64 k) r.body.length ?_ ?_
   ·exact⟨_,Fg.refl _,0,M,by omega,by omega,hMl,u_ (by simpa using HM.out),u_ (fun j=>by have:=HB2.out j;omega),rfl,ab,ab,ab,ab,ab⟩
   clear e2 e5 e7 env HM HB2 hMl M
   rintro m' env s' ⟨k,M,hk,hm',hMl,HM,HB2,rfl,e2,e5,e7,e8,e9⟩
   have hnl:(nts M).length=n:=by rw[kI];exact hMl
   by_cases hlk:k<r.body.length
   ·obtain⟨c,hc⟩:=aN hlk
    have hsy:=cX hc
    obtain⟨hci,hcz⟩:=HAB.out c (p_ hc)
    rw[hn]at hci
    have HC:=u_ hc
    clear hc
    have hmb:=re (l:=M) (i:=ixR x c.rel) (by omega)
    have hmh:=re (l:=M) (i:=hd) (by omega)
    have hb1:=HB2.out (ixR x c.rel)
    have hb2:=HB2.out hd
    obtain⟨cn,cr,cts⟩:=c
    simp only at hci hcz hmb hb1
    have hstep:∀w:Nat,w=(if cn=true then 1 else 0)->∀v:Nat,v=max (gt M hd) (gt M (ixR x cr)+w)->M.set hd v=cG (((x.rules.take i).map (gd x)).flatten++((r.body.take (k+1)).map fun a=>(⟨hd,ixR x a.rel,if a.not=true then 1 else 0⟩:Edg))) L/\∀j,gt (M.set hd v) j<=1000+10*i+(k+1):=by
     rintro w hw v rfl
     subst hw
     have h1:M.set hd (max (gt M hd) (gt M (ixR x cr)+if cn=true then 1 else 0))=fR M ⟨hd,ixR x cr,if cn=true then 1 else 0⟩:=rfl
     rw[h1]
     refine⟨?_,As (by simp only;split<;>omega) HB2.out⟩
     rw[Bq HC.out,<- List.append_assoc,uX,<- HM.out]
     rfl
    have HST:=u_ hstep
    clear hstep
    generalize gt M (ixR x cr)=u at *
    generalize gt M hd=v at *
    cases cn
    ·(repeat'(first|refine Ctl ?_|((with_reducible refine j_ hK ?_);clear hK hE K E)|((with_reducible refine aj (fun h=>?_) (fun h=>?_))<;>(try(exfalso;assumption)))|((first|(with_reducible first|refine ae fun K E hK hE=>?_|refine ak fm (w3 _ _) ?_|refine gh ?_|refine gT ?_)|((with_reducible refine ao (fun b hb=>?_));(repeat(obtain⟨_,hb⟩:=hb));(try(obtain⟨_,_⟩:=nef hb hSpf))))<;>(try simp(disch:=first|assumption|omega) only[go_sem,seval,hlr,hsx,ax,hbb,hsy,aG,hcz,hmb,hmh,hnl,xl, *]))))
     refine⟨S.set bo (.obj 3 (nts (M.set hd (max v u)))),by rw[kH (by omega)];exact v_ _ (by rw[k_ _ _ (‹_›)];exact hb),m' - 1,by omega,k+1,M.set hd (max v u),by omega,by omega,by rw[List.length_set];exact hMl,u_ (HST.out 0 rfl _ rfl).1,u_ (HST.out 0 rfl _ rfl).2,rfl,ab,ab,ab,ab,ab⟩
    ·(repeat'(first|refine Ctl ?_|((with_reducible refine j_ hK ?_);clear hK hE K E)|((with_reducible refine aj (fun h=>?_) (fun h=>?_))<;>(try(exfalso;assumption)))|((first|(with_reducible first|refine ae fun K E hK hE=>?_|refine ak fm (w3 _ _) ?_|refine gh ?_|refine gT ?_)|((with_reducible refine ao (fun b hb=>?_));(repeat(obtain⟨_,hb⟩:=hb));(try(obtain⟨_,_⟩:=nef hb hSpf))))<;>(try simp(disch:=first|assumption|omega) only[go_sem,seval,hlr,hsx,ax,hbb,hsy,aG,hcz,hmb,hmh,hnl,xl, *]))))
     refine⟨S.set bo (.obj 3 (nts (M.set hd (max v (u+1))))),by rw[kH (by omega)];exact v_ _ (by rw[k_ _ _ (‹_›)];exact hb),m' - 1,by omega,k+1,M.set hd (max v (u+1)),by omega,by omega,by rw[List.length_set];exact hMl,u_ (HST.out 1 rfl _ rfl).1,u_ (HST.out 1 rfl _ rfl).2,rfl,ab,ab,ab,ab,ab⟩
   ·have hM:=HM.out
    rw[show k=r.body.length by omega,f_]at hM
    have HM3:=u_ hM
    clear hM HM
    (repeat'(first|refine Ctl ?_|((with_reducible refine j_ hK ?_);clear hK hE K E)|((with_reducible refine aj (fun h=>?_) (fun h=>?_))<;>(try(exfalso;assumption)))|(((with_reducible refine ae fun K E hK hE=>?_))<;>(try simp(disch:=omega) only[go_sem,seval,hlr,hsx,ax,hbb, *]))))
    refine⟨_,Fg.refl _,m - 1,by omega,i+1,M,by omega,by omega,hMl,u_ ?_,u_ (fun j=>by have:=HB2.out j;omega),rfl,ab,ab,ab⟩
    rw[xH HRI.out,HM3.out]
    unfold gd
    rw[hd0]
  ·have hM:=HM.out
   rw[B_ (by omega)]at hM
   have HM2:=u_ hM
   clear hM HM
   refine wj 5 bo n (q_ _ _ _) e5 (by rw[kI];exact hMl) ?_
   rw[St.set_set,x_ _ _ _ hSo]
   (repeat'(first|refine Ctl ?_|((with_reducible refine j_ hK ?_);clear hK hE K E)|((with_reducible refine aj (fun h=>?_) (fun h=>?_))<;>(try(exfalso;assumption)))|(((with_reducible refine ae fun K E hK hE=>?_))<;>(try simp(disch:=omega) only[go_sem,seval,hlr, *]))))
   all_goals(refine ap AZ hQ ?_)
   refine⟨_,T,Wk.refl _,HF.out,?_,rfl⟩
   unfold nts
   rw[kP,HM2.out]
   rfl
def mI (r:Option (List Nat)):VV:=match r with|some l=>.tup [.lst (iL l) .no,.bool true]|none=>.tup [.lst [] .no,.bool false]
theorem RelOk.InE {x:Pgm}(h:RelOk x):InE x.decls.length (eJ x):=by
 intro e he
 unfold eJ at he
 obtain⟨l,hl,he⟩:=List.mem_flatten.1 he
 obtain⟨r,hr,rfl⟩:=E_.1 hl
 unfold gd at he
 obtain⟨a,ha,rfl⟩:=E_.1 he
 exact⟨(h r hr).1.1,((h r hr).2 a ha).1⟩
theorem yD {n:Nat}{E:List Edg}{f:Nat}{l:List Nat}:qI n E (f+1) l=if jO n (cG E l)=true then none else if cG E l=l then some l else qI n E f (cG E l):=rfl
theorem DU {n:Nat}{l:List Nat}{i:Nat}(hi:i<l.length)(h:n<=gt l i):jO n l=true:=by
 apply Classical.byContradiction
 intro hc
 have:=xc hc hi
 omega
theorem Bj {n:Nat}{l:List Nat}(h:∀i,i<l.length->gt l i<n):¬ jO n l=true:=by
 intro hc
 obtain⟨i,hi,hn⟩:=xd hc
 have:=h i hi
 omega
theorem I9 {n:Nat}:(nts (List.replicate n 0)).map (fun y=>[y])=iL (List.replicate n 0):=by unfold nts;rw[kP];rfl
set_option maxHeartbeats 8000000 in
theorem qC (T:St)(x:Pgm)(hR:RelOk x)(hc:x.decls.length<=32)(hr:x.rules.length<=64)(hb:∀r,r∈x.rules->r.body.length<=10) :
  SRet Tryz.prog 81 [.agg (pgC x)] T (mI (stgP x)) T:=by
 have w1:=fun t l o (hl:l.length=x.decls.length) (hlt:∀i,gt l i<=1000)=>CL t x l o hR hc hr hb hl hlt
 have hst:stgP x=qI x.decls.length (eJ x) 1640 (List.replicate x.decls.length 0):=(Af hR.InE hc).symm
 rw[hst]
 have W1:=u_ w1
 generalize hRR:qI x.decls.length (eJ x) 1640 (List.replicate x.decls.length 0)=R
 have HR0:=u_ hRR
 have hle:(x.decls.map az).length=x.decls.length:=by simp
 clear w1 hst hRR hR hb
 simp only[pgC]at W1 ⊢
 refine aw Tryz.func81 rfl Tryz.ntmps81 rfl fun Q hQ hQe=>?_
 (repeat'(first|refine Ctl ?_|((with_reducible refine j_ hK ?_);clear hK hE K E)|((first|(with_reducible first|refine ae fun K E hK hE=>?_|refine mB ?_)|((with_reducible refine ao (fun b hb=>?_));(repeat(obtain⟨_,hb⟩:=hb))))<;>(try simp(disch:=omega) only[go_sem,seval,hle, *]))))
 rename_i bp hbp _ _
 obtain⟨bo,hbo⟩:∃z,z=b:=⟨_,rfl⟩
 subst hbo
 have hSp:(T.set bp (.obj 26 [.lst (x.doms.map dmC) .no,.lst (x.decls.map az) .no,.lst (x.rules.map ax) .no])) bp=(.obj 26 [.lst (x.doms.map dmC) .no,.lst (x.decls.map az) .no,.lst (x.rules.map ax) .no]):=q_ _ _ _
 have hSo:(T.set bp (.obj 26 [.lst (x.doms.map dmC) .no,.lst (x.decls.map az) .no,.lst (x.rules.map ax) .no])) bo=.free:=by rw[k_ _ _ (‹_›)];exact hb
 have hF:Fg (T.set bp (.obj 26 [.lst (x.doms.map dmC) .no,.lst (x.decls.map az) .no,.lst (x.rules.map ax) .no])) T:=v_ _ hbp
 generalize T.set bp (.obj 26 [.lst (x.doms.map dmC) .no,.lst (x.decls.map az) .no,.lst (x.rules.map ax) .no])=S at *
 have HF:=u_ hF
 clear hF hb hbp
 generalize hn:x.decls.length=n at *
 refine wj 4 bo n (q_ _ _ _) (ab) (by simp) ?_
 rw[St.set_set,x_ _ _ _ hSo,rc,I9]
 clear hSo
 refine aI (fun m env s'=>∃(i:Nat) (l:List Nat),i<=1640/\m+i=1640/\l.length=n/\Hid (∀j,gt l j<=1000)/\Hid (qI n (eJ x) (1640 - i) l=R)/\s'=S/\env 1=.ptr bp 0/\env 4=.lst (iL l) .no/\env 5=.int .i64 i) 1640 ?_ ?_
 ·refine⟨_,Fg.refl _,0,List.replicate n 0,by omega,by omega,by simp,u_ (fun j=>?_),HR0,rfl,ab,ab,ab⟩
  unfold gt;rw[List.getElem?_replicate];split<;>simp
 clear HR0
 rintro m env s' ⟨i,l,hi,hm,hl,HLT,HR,rfl,e1,e4,e5⟩
 have hil:(iL l).length=n:=by rw[vE];exact hl
 by_cases hlt:i<1640
 ·have w1:=fun t=>W1.out t l .no hl HLT.out
  have hRR:=HR.out
  rw[show 1640 - i=(1640 - (i+1))+1 by omega,yD]at hRR
  have hml:(cG (eJ x) l).length=n:=by rw[risesL_len];exact hl
  generalize cG (eJ x) l=M at *
  have HRR:=u_ hRR
  have him:(iL M).length=n:=by rw[vE];exact hml
  clear hRR HR
  (repeat'(first|refine Ctl ?_|((with_reducible refine j_ hK ?_);clear hK hE K E)|((with_reducible refine aj (fun h=>?_) (fun h=>?_))<;>(try(exfalso;omega)))|(((with_reducible first|refine ae fun K E hK hE=>?_|refine ak Jz (w1 _) ?_))<;>(try simp(disch:=omega) only[go_sem,seval,hle, *]))))
  refine aI (fun m' env s2=>∃(k:Nat) (w:Bool),k<=n/\m'+k=n/\s2=s'/\env 1=.ptr bp 0/\env 4=.lst (iL l) .no/\env 5=.int .i64 i/\env 6=.lst (iL M) .no/\env 7=.bool w/\env 8=.int .i64 k/\Hid (w=true↔∀j,j<k->gt M j=gt l j)/\Hid (∀j,j<k->gt M j<n)) n ?_ ?_
  ·exact⟨_,Fg.refl _,0,true,by omega,by omega,rfl,ab,ab,ab,ab,ab,ab,u_ ⟨fun _ j hj=>by omega,fun _=>rfl⟩,u_ (fun j hj=>by omega)⟩
  clear e1 e4 e5 env w1
  rintro m' env s2 ⟨k,w,hk,hm',rfl,e1,e4,e5,e6,e7,e8,HW,HO⟩
  by_cases hlk:k<n
  ·have hmk:=Bx (l:=M) (i:=k) (by omega)
   have hlk2:=Bx (l:=l) (i:=k) (by omega)
   have hov:n<=gt M k->R=none:=fun h=>by rw[<- HRR.out,if_pos (DU (by omega) h)]
   have HOV:=u_ hov
   have hnx:∀w':Bool,(w'=true↔(w=true/\gt M k=gt l k))->(w'=true↔∀j,j<k+1->gt M j=gt l j):=by
    intro w' h
    rw[h,HW.out]
    constructor
    ·rintro⟨h1,h2⟩ j hj
     by_cases e:j=k
     ·rw[e];exact h2
     ·exact h1 j (by omega)
    ·intro h;exact⟨fun j hj=>h j (by omega),h k (by omega)⟩
   have hno:gt M k<n->∀j,j<k+1->gt M j<n:=fun h j hj=>by
    by_cases e:j=k
    ·rw[e];exact h
    ·exact HO.out j (by omega)
   have HNX:=u_ hnx
   have HNO:=u_ hno
   clear hov hnx hno HW HO
   generalize gt M k=u at *
   generalize gt l k=v at *
   by_cases huv:u=v
   ·subst huv
    by_cases hun:n<=u
    ·have hE:=HOV.out hun
     subst hE
     cases w
     all_goals(repeat'(first|refine Ctl ?_|(with_reducible first|(refine j_ hK ?_;clear hK hE K E)|(refine j_ hKh ?_;clear hKh Kh)|(refine j_ hKb (aL ?_);clear hKb Kb)|refine aq 10 [([0,1,2,3,4,5,6,7,8,9,10,11],12,[[0,1,2,3,4,5,6,7,8,9,10,11]])] [] hQe fun K E hK hE=>?_|refine aq 11 [] [0,1,2,3,4,5,6,7] hQe fun K E hK hE=>?_)|((with_reducible refine aj (fun h=>?_) (fun h=>?_))<;>(try(exfalso;assumption)))|(((with_reducible first|refine ae fun K E hK hE=>?_|refine aE fun Kh hKh=>?_|refine aD fun Kh hKh=>?_|refine aM fun Kb hKb=>?_))<;>(try simp(disch:=omega) only[go_sem,seval,hle,hil,him,hmk,hlk2, *]))))
     all_goals(refine ap sP hQ ?_)
     all_goals exact⟨_,T,Wk.tup2,HF.out,rfl,rfl⟩
    ·have hunI:¬ ((n:Int)<=(u:Int)):=by omega
     cases w
     all_goals(repeat'(first|refine Ctl ?_|(with_reducible first|(refine j_ hK ?_;clear hK hE K E)|(refine j_ hKh ?_;clear hKh Kh)|(refine j_ hKb (aL ?_);clear hKb Kb)|refine aq 10 [([0,1,2,3,4,5,6,7,8,9,10,11],12,[[0,1,2,3,4,5,6,7,8,9,10,11]])] [] hQe fun K E hK hE=>?_|refine aq 11 [] [0,1,2,3,4,5,6,7] hQe fun K E hK hE=>?_)|((with_reducible refine aj (fun h=>?_) (fun h=>?_))<;>(try(exfalso;assumption)))|(((with_reducible first|refine ae fun K E hK hE=>?_|refine aE fun Kh hKh=>?_|refine aD fun Kh hKh=>?_|refine aM fun Kb hKb=>?_))<;>(try simp(disch:=omega) only[go_sem,seval,hle,hil,him,hmk,hlk2, *]))))
     ·exact⟨_,Fg.refl _,m' - 1,by omega,k+1,false,by omega,by omega,rfl,ab,ab,ab,ab,ab,ab,u_ (HNX.out _ (by simp)),u_ (HNO.out (by omega))⟩
     ·exact⟨_,Fg.refl _,m' - 1,by omega,k+1,true,by omega,by omega,rfl,ab,ab,ab,ab,ab,ab,u_ (HNX.out _ (by simp)),u_ (HNO.out (by omega))⟩
   ·have huvI:((u:Int)=(v:Int))=False:=eq_false (by omega)
    have HUV:=u_ huv
    clear huv
    by_cases hun:n<=u
    ·have hE:=HOV.out hun
     subst hE
     cases w
     all_goals(repeat'(first|refine Ctl ?_|(with_reducible first|(refine j_ hK ?_;clear hK hE K E)|(refine j_ hKh ?_;clear hKh Kh)|(refine j_ hKb (aL ?_);clear hKb Kb)|refine aq 10 [([0,1,2,3,4,5,6,7,8,9,10,11],12,[[0,1,2,3,4,5,6,7,8,9,10,11]])] [] hQe fun K E hK hE=>?_|refine aq 11 [] [0,1,2,3,4,5,6,7] hQe fun K E hK hE=>?_)|((with_reducible refine aj (fun h=>?_) (fun h=>?_))<;>(try(exfalso;assumption)))|(((with_reducible first|refine ae fun K E hK hE=>?_|refine aE fun Kh hKh=>?_|refine aD fun Kh hKh=>?_|refine aM fun Kb hKb=>?_))<;>(try simp(disch:=omega) only[go_sem,seval,hle,hil,him,hmk,hlk2, *]))))
     all_goals(refine ap sP hQ ?_)
     all_goals exact⟨_,T,Wk.tup2,HF.out,rfl,rfl⟩
    ·have hunI:¬ ((n:Int)<=(u:Int)):=by omega
     cases w
     all_goals(repeat'(first|refine Ctl ?_|(with_reducible first|(refine j_ hK ?_;clear hK hE K E)|(refine j_ hKh ?_;clear hKh Kh)|(refine j_ hKb (aL ?_);clear hKb Kb)|refine aq 10 [([0,1,2,3,4,5,6,7,8,9,10,11],12,[[0,1,2,3,4,5,6,7,8,9,10,11]])] [] hQe fun K E hK hE=>?_|refine aq 11 [] [0,1,2,3,4,5,6,7] hQe fun K E hK hE=>?_)|((with_reducible refine aj (fun h=>?_) (fun h=>?_))<;>(try(exfalso;assumption)))|(((with_reducible first|refine ae fun K E hK hE=>?_|refine aE fun Kh hKh=>?_|refine aD fun Kh hKh=>?_|refine aM fun Kb hKb=>?_))<;>(try simp(disch:=omega) only[go_sem,seval,hle,hil,him,hmk,hlk2, *]))))
     all_goals exact⟨_,Fg.refl _,m' - 1,by omega,k+1,false,by omega,by omega,rfl,ab,ab,ab,ab,ab,ab,u_ (HNX.out _ (by simp[HUV.out])),u_ (HNO.out (by omega))⟩
  ·have hno:¬ jO n M=true:=Bj (fun j hj=>HO.out j (by omega))
   have hRR:=HRR.out
   rw[if_neg hno]at hRR
   cases w
   ·have hne:¬ M=l:=fun e=>by
     have:=HW.out.2 (fun j _=>by rw[e])
     cases this
    rw[if_neg hne]at hRR
    have HRR2:=u_ hRR
    have HO2:=u_ (show ∀j,gt M j<=1000 from fun j=>by
     by_cases hj:j<n
     ·have:=HO.out j (by omega);omega
     ·rw[Ja (by omega)];omega)
    clear hno hRR hne HRR HO HW
    (repeat'(first|refine Ctl ?_|((with_reducible refine j_ hK ?_);clear hK hE K E)|((with_reducible refine aj (fun h=>?_) (fun h=>?_))<;>(try(exfalso;assumption)))|(((with_reducible refine ae fun K E hK hE=>?_))<;>(try simp(disch:=omega) only[go_sem,seval,hle,hil,him, *]))))
    exact⟨_,Fg.refl _,m - 1,by omega,i+1,M,by omega,by omega,hml,HO2,HRR2,rfl,ab,ab,ab⟩
   ·have he:M=l:=vv (by omega) (fun j hj=>HW.out.1 rfl j (by omega))
    rw[if_pos he]at hRR
    subst hRR
    clear he hno HRR HO HW
    (repeat'(first|refine Ctl ?_|((with_reducible refine j_ hK ?_);clear hK hE K E)|((with_reducible refine aj (fun h=>?_) (fun h=>?_))<;>(try(exfalso;assumption)))|(((with_reducible refine ae fun K E hK hE=>?_))<;>(try simp(disch:=omega) only[go_sem,seval,hle,hil,him, *]))))
    all_goals(refine ap sP hQ ?_)
    all_goals exact⟨_,T,Wk.refl _,HF.out,rfl,rfl⟩
 ·have hRR:=HR.out
  rw[show 1640 - i=0 by omega]at hRR
  have hE:R=none:=by rw[<- hRR];rfl
  subst hE
  clear hRR HR
  (repeat'(first|refine Ctl ?_|((with_reducible refine j_ hK ?_);clear hK hE K E)|((with_reducible refine aj (fun h=>?_) (fun h=>?_))<;>(try(exfalso;omega)))|(((with_reducible refine ae fun K E hK hE=>?_))<;>(try simp(disch:=omega) only[go_sem,seval,hle, *]))))
  all_goals(refine ap sP hQ ?_)
  all_goals exact⟨_,T,Wk.tup2,HF.out,rfl,rfl⟩
set_option maxHeartbeats 8000000 in
theorem v7 (x:Pgm)(hx:PgmOk x)(t:St):SRet Tryz.prog 74 [.agg (pgC x)] t (.tup [.int .i64 (soundP x).1,.int .i64 (soundP x).2.1]) t:=by
 have w1:=fun s=>EI x hx s
 have hlr:(x.rules.map ax).length=x.rules.length:=by simp
 by_cases hr:cp x=0
 ·have hBd:=ij (dL hr)
  obtain⟨hdl,hrl,hbd⟩:=hBd
  have hs:soundP x=match em x 0 x.rules with|some (k,e)=>((k:Int),e,[])|none=>match stgP x with|none=>(-1,126,[])|some l=>(-1,0,l):=by
   unfold soundP;rw[if_neg (by simp[hr])];rfl
  generalize hZ:soundP x=Z at hs
  have HS:=u_ hs
  have HBD:=u_ hbd
  clear hs hZ hbd
  rw[hr]at w1
  have w2:=fun s r (h:r∈x.rules)=>uu s x r hx.1 hx.2.1 (by have:=(HBD.out r h).2.1;omega) (fun a ha=>by rcases ha with rfl|ha;exact Nat.le_trans (HBD.out r h).1 (by omega);exact Nat.le_trans ((HBD.out r h).2.2 a ha) (by omega))
  have W2:=u_ w2
  clear w2 hr
  simp only[pgC]at w1 W2 ⊢
  refine aw Tryz.func74 rfl Tryz.ntmps74 rfl fun Q hQ hQe=>?_
  (repeat'(first|refine Ctl ?_|((with_reducible refine j_ hK ?_);clear hK hE K E)|((with_reducible refine aj (fun h=>?_) (fun h=>?_))<;>(try(exfalso;assumption)))|((first|(with_reducible first|refine ae fun K E hK hE=>?_|refine ak Ci (w1 _) ?_)|((with_reducible refine ao (fun b hb=>?_))))<;>(try simp(disch:=omega) only[go_sem,seval,hlr, *]))))
  obtain⟨bp,hbp⟩:∃z,z=b:=⟨_,rfl⟩
  subst hbp
  have hSp:(t.set bp (.obj 26 [.lst (x.doms.map dmC) .no,.lst (x.decls.map az) .no,.lst (x.rules.map ax) .no])) bp=(.obj 26 [.lst (x.doms.map dmC) .no,.lst (x.decls.map az) .no,.lst (x.rules.map ax) .no]):=q_ _ _ _
  have hF:Fg (t.set bp (.obj 26 [.lst (x.doms.map dmC) .no,.lst (x.decls.map az) .no,.lst (x.rules.map ax) .no])) t:=v_ _ hb
  generalize t.set bp (.obj 26 [.lst (x.doms.map dmC) .no,.lst (x.decls.map az) .no,.lst (x.rules.map ax) .no])=S at *
  have HF:=u_ hF
  have hSpf:S bp≠.free:=by rw[hSp];simp
  clear hF hb
  refine aI (fun m env s'=>∃i:Nat,i<=x.rules.length/\m+i=x.rules.length/\Hid (em x 0 x.rules=em x i (x.rules.drop i))/\s'=S/\env 1=.ptr bp 0/\env 5=.int .i64 i) x.rules.length ?_ ?_
  ·exact⟨_,Fg.refl _,0,by omega,by omega,u_ (by simp),rfl,ab,ab⟩
  rintro m env s' ⟨i,hi,hm,HI,rfl,e1,e5⟩
  by_cases hlt:i<x.rules.length
  ·obtain⟨r,hrj⟩:=aN hlt
   have hsx:=fc hrj
   have w2:=fun s=>W2.out s r (p_ hrj)
   have hI:=HI.out
   rw[g_ hlt,show x.rules[i]=r by rw[b_ hlt]at hrj;injection hrj]at hI
   simp only[em]at hI
   clear hrj
   cases hsc:bJ x r with
   |error e=>
    rw[hsc]at hI w2
    simp only at hI
    have hen:=j5 hsc
    have hZ:Z=((i:Int),e,[]):=by rw[HS.out,hI]
    subst hZ
    have hef:(e=0)=False:=eq_false hen
    simp only[lq,ax]at w2
    clear hI hsc HI HS
    (repeat'(first|refine Ctl ?_|(with_reducible first|(refine j_ hK ?_;clear hK hE K E)|(refine j_ hKh ?_;clear hKh Kh)|(refine j_ hKb (aL ?_);clear hKb Kb)|refine jG 7 (.two [0,1,2,3,4,5] 6 [[]] (.one [7,8,9] 10 [[7,8,9],[]] (.one [] 11 [[],[9],[]] (.fin [12]))) 10 [[0,1,2,3,4,5]] (.one [] 6 [[],[]] (.one [7,8,9] 11 [[9],[],[]] (.fin [12])))) hQe fun K E hK hE=>?_)|((with_reducible refine aj (fun h=>?_) (fun h=>?_))<;>(try(exfalso;assumption)))|((first|(with_reducible first|refine ae fun K E hK hE=>?_|refine ak xO (w2 _) ?_|refine aM fun Kb hKb=>?_|refine jE fun Kh hKh=>?_|refine qy fun Kh hKh=>?_|refine qx fun Kh hKh=>?_|refine lP (fun Kb hKb=>?_) (fun Kb hKb=>?_))|((with_reducible refine ao (fun b hb=>?_));(try(obtain⟨_,_⟩:=nef hb hSpf))))<;>(try simp(disch:=omega) only[go_sem,seval,hlr,hsx,ax, *]))))
    all_goals(refine ap sR hQ ?_)
    all_goals exact⟨_,t,Wk.refl _,(v_ _ hb).trans HF.out,rfl,rfl⟩
   |ok Y=>
    rw[hsc]at hI w2
    simp only at hI
    have HI2:=u_ hI
    simp only[lq,ax]at w2
    clear hI hsc HI
    (repeat'(first|refine Ctl ?_|(with_reducible first|(refine j_ hK ?_;clear hK hE K E)|(refine j_ hKh ?_;clear hKh Kh)|(refine j_ hKb (aL ?_);clear hKb Kb)|refine jG 7 (.two [0,1,2,3,4,5] 6 [[]] (.one [7,8,9] 10 [[7,8,9],[]] (.one [] 11 [[],[9],[]] (.fin [12]))) 10 [[0,1,2,3,4,5]] (.one [] 6 [[],[]] (.one [7,8,9] 11 [[9],[],[]] (.fin [12])))) hQe fun K E hK hE=>?_)|((with_reducible refine aj (fun h=>?_) (fun h=>?_))<;>(try(exfalso;assumption)))|((first|(with_reducible first|refine ae fun K E hK hE=>?_|refine ak xO (w2 _) ?_|refine aM fun Kb hKb=>?_|refine jE fun Kh hKh=>?_|refine qy fun Kh hKh=>?_|refine qx fun Kh hKh=>?_|refine lP (fun Kb hKb=>?_) (fun Kb hKb=>?_))|((with_reducible refine ao (fun b hb=>?_));(try(obtain⟨_,_⟩:=nef hb hSpf))))<;>(try simp(disch:=omega) only[go_sem,seval,hlr,hsx,ax, *]))))
    all_goals exact⟨_,v_ _ hb,m - 1,by omega,i+1,by omega,by omega,HI2,rfl,ab,ab⟩
  ·have hI:=HI.out
   rw[show i=x.rules.length by omega,G_]at hI
   simp only[em]at hI
   have hRO:RelOk x:=fun r hr=>pB hI hr
   have w4:=fun s=>qC s x hRO hdl hrl (fun r hr=>by have:=(HBD.out r hr).2.1;omega)
   have hZ:=HS.out
   rw[hI]at hZ
   simp only at hZ
   simp only[pgC]at w4
   clear hI HS HI hRO
   cases hst:stgP x with
   |none=>
    rw[hst]at hZ w4
    simp only at hZ
    subst hZ
    simp only[mI]at w4
    (repeat'(first|refine Ctl ?_|((with_reducible refine j_ hK ?_);clear hK hE K E)|((with_reducible refine aj (fun h=>?_) (fun h=>?_))<;>(try(exfalso;assumption)))|(((with_reducible first|refine ae fun K E hK hE=>?_|refine ak BR (w4 _) ?_))<;>(try simp(disch:=omega) only[go_sem,seval,hlr, *]))))
    all_goals(refine ap sR hQ ?_)
    all_goals exact⟨_,t,Wk.refl _,HF.out,rfl,rfl⟩
   |some l=>
    rw[hst]at hZ w4
    simp only at hZ
    subst hZ
    simp only[mI]at w4
    (repeat'(first|refine Ctl ?_|((with_reducible refine j_ hK ?_);clear hK hE K E)|((with_reducible refine aj (fun h=>?_) (fun h=>?_))<;>(try(exfalso;assumption)))|(((with_reducible first|refine ae fun K E hK hE=>?_|refine ak BR (w4 _) ?_))<;>(try simp(disch:=omega) only[go_sem,seval,hlr, *]))))
    all_goals(refine ap sR hQ ?_)
    all_goals exact⟨_,t,Wk.refl _,HF.out,rfl,rfl⟩
 ·have hs:soundP x=(-1,cp x,[]):=by unfold soundP;rw[if_pos hr]
  rw[hs]
  clear hs
  generalize cp x=e at *
  have hef:(e=0)=False:=eq_false hr
  simp only[pgC]at w1 ⊢
  refine aw Tryz.func74 rfl Tryz.ntmps74 rfl fun Q hQ hQe=>?_
  (repeat'(first|refine Ctl ?_|((with_reducible refine j_ hK ?_);clear hK hE K E)|((with_reducible refine aj (fun h=>?_) (fun h=>?_))<;>(try(exfalso;assumption)))|((first|(with_reducible first|refine ae fun K E hK hE=>?_|refine ak Ci (w1 _) ?_)|((with_reducible refine ao (fun b hb=>?_))))<;>(try simp(disch:=omega) only[go_sem,seval, *]))))
  all_goals(refine ap sR hQ ?_)
  all_goals(refine⟨_,_,Wk.of_eq ?_,?_,rfl,rfl⟩)
  all_goals first|rfl|(exact bC)
set_option maxHeartbeats 4000000 in
theorem ut (x:Pgm)(hx:PgmOk x)(t:St):SRet Tryz.prog 52 [.agg (pgC x)] t (.tup [.lst (iL (soundP x).2.2) .no,.int .i64 (soundP x).2.1]) t:=by
 have w1:=fun s=>v7 x hx s
 by_cases he:(soundP x).2.1=0
 ·obtain⟨l,hs,hr,hb,hst⟩:=eq he
  obtain⟨hdl,hrl,hbd⟩:=ij (dL hr)
  have w2:=fun s=>qC s x (fun r hr=>pB hb hr) hdl hrl (fun r hr=>by have:=(hbd r hr).2.1;omega)
  rw[hst]at w2
  rw[hs]at w1 ⊢
  simp only[mI,pgC]at w1 w2 ⊢
  clear hst hs hr hb hbd he
  refine aw Tryz.func52 rfl Tryz.ntmps52 rfl fun Q hQ hQe=>?_
  (repeat'(first|refine Ctl ?_|((with_reducible refine j_ hK ?_);clear hK hE K E)|((with_reducible refine aj (fun h=>?_) (fun h=>?_))<;>(try(exfalso;assumption)))|((first|(with_reducible first|refine ae fun K E hK hE=>?_|refine ak Fm (w1 _) ?_|refine ak BR (w2 _) ?_)|((with_reducible refine ao (fun b hb=>?_))))<;>(try simp(disch:=omega) only[go_sem,seval, *]))))
  all_goals(refine ap AE hQ ?_)
  all_goals(refine⟨_,_,Wk.of_eq ?_,?_,rfl,rfl⟩)
  all_goals first|rfl|(exact bC)
 ·have hs:=lm he
  rw[hs]
  generalize soundP x=Z at *
  obtain⟨z1,z2,z3⟩:=Z
  simp only at he hs w1 ⊢
  have hef:(z2=0)=False:=eq_false he
  simp only[pgC]at w1 ⊢
  refine aw Tryz.func52 rfl Tryz.ntmps52 rfl fun Q hQ hQe=>?_
  (repeat'(first|refine Ctl ?_|((with_reducible refine j_ hK ?_);clear hK hE K E)|((with_reducible refine aj (fun h=>?_) (fun h=>?_))<;>(try(exfalso;assumption)))|((first|(with_reducible first|refine ae fun K E hK hE=>?_|refine ak Fm (w1 _) ?_)|((with_reducible refine ao (fun b hb=>?_))))<;>(try simp(disch:=omega) only[go_sem,seval, *]))))
  all_goals(refine ap AE hQ ?_)
  all_goals exact⟨_,t,Wk.tup2,bC,rfl,rfl⟩
noncomputable def varsP (x:Pgm)(k:Int):Scp×Int:=
 if (soundP x).2.1≠0 then(⟨[],[]⟩,(soundP x).2.1)
 else if k<0 then(⟨[],[]⟩,1)
 else match x.rules[k.toNat]? with
  |none=>(⟨[],[]⟩,1)
  |some r=>match bJ x r with|.ok Y=>(Y,0)|.error _=>(⟨[],[]⟩,0)
def zV (q:Scp×Int):VV:=.tup [.lst (aA q.1.vs) .no,.lst (aA q.1.ds) .no,.int .i64 q.2]
theorem mH {o1 o2:Own}{q:Scp×Int}:Wk (.tup [.lst (aA q.1.vs) o1,.lst (aA q.1.ds) o2,.int .i64 q.2]) (zV q):=z_ (.lst _ _ (.lst _ _ (.same _ .nil)))
end Go.Proofs.YteldpmgepfaiiaaGreatDoor
