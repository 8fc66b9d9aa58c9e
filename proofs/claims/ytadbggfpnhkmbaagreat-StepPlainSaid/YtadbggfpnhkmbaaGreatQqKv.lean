/- Walks of functions that the claim reaches, and plain facts of them. Conditions: those in the statements. -/
import Derived.Test.YtadbggfpnhkmbaaGreatQqCaj
import Derived.Test.YtadbggfpnhkmbaaGreatQqKq
set_option linter.unusedSimpArgs false
set_option linter.unusedVariables false
set_option maxRecDepth 100000
namespace Go.Proofs.YtadbggfpnhkmbaaGreat
open Go.RowKit
theorem lsR_nil:lsR ⟨[],0,[],[]⟩=fun _=>[]:=by
 funext i
 unfold lsR setN
 simp
def msK (m0 m1 m2 m3:Nat)(i:Nat):Nat:=if i=0 then m0 else if i=1 then m1 else if i=2 then m2 else m3
theorem RunAt.start {S:St}{p a av q1 q2 m0 m1 m2 m3:Nat}{V F:List (List UInt8)}{ml:VV}{cs:List VV}{l:List Sl}{most:Int}(gs0 fo0:Nat→Nat)
  (hp:S p=.obj 59 cs) (hlen:cs.length=38) (c22:cs[22]?=some ml) (c23:cs[23]?=some (.mp q1)) (c24:cs[24]?=some (.mp q2)) (c27:cs[27]?=some (.int .i64 most)) (c28:cs[28]?=some (.int .i64 0)) (c29:cs[29]?=some (.bool false))
  (c30:cs[30]?=some (.raw (.slice none 0 0))) (c31:cs[31]?=some (.mp m0)) (c32:cs[32]?=some (.raw (.slice none 0 0))) (c33:cs[33]?=some (.mp m1)) (c34:cs[34]?=some (.raw (.slice none 0 0))) (c35:cs[35]?=some (.mp m3)) (c36:cs[36]?=some (.raw (.slice none 0 0))) (c37:cs[37]?=some (.mp m2))
  (hfr:S a=.obj 71 [.int .i64 0,.mp av,.lst [] .full,.bool false]) (hav:S av=.map []) (hq1:S q1=.map (mpV encI (plcP V))) (hq2:S q2=.map (mpV encI (plcP F)))
  (h0:S m0=.map []) (h1:S m1=.map []) (h2:S m2=.map []) (h3:S m3=.map []) (nd:[av,q1,q2,m0,m1,m2,m3].Nodup) :
  RunAt S S ⟨p,a,av,q1,q2,msK m0 m1 m2 m3,V,F⟩ ml l most gs0 fo0 0 false:=by
 refine⟨cs,gs0,fo0,fo0,⟨hp,hlen,c22,c23,c24,hfr,hav,hq1,hq2,fun i hi=>?_,fun j hj=>absurd hj (Nat.not_lt_zero _),nd,fun j hj=>absurd hj (Nat.not_lt_zero _),fun i j hi=>absurd hi (Nat.not_lt_zero _),fun i j hi hj hne h=>absurd ?_ h,fun x hx=>by cases hx⟩,?_,⟨hlen,c27,c28,c29⟩⟩
 ·have hl:lsR (runK V F l 0) i=[]:=by rw[show runK V F l 0=⟨[],0,[],[]⟩ from rfl,lsR_nil]
  rw[hl]
  match i,hi with
  |0,_=>exact⟨c30,c31,h0,fun h=>absurd rfl h,fun x hx=>(by cases hx),by simp⟩
  |1,_=>exact⟨c32,c33,h1,fun h=>absurd rfl h,fun x hx=>(by cases hx),by simp⟩
  |2,_=>exact⟨c36,c37,h2,fun h=>absurd rfl h,fun x hx=>(by cases hx),by simp⟩
  |3,_=>exact⟨c34,c35,h3,fun h=>absurd rfl h,fun x hx=>(by cases hx),by simp⟩
 ·rw[show runK V F l 0=⟨[],0,[],[]⟩ from rfl,lsR_nil]
 ·rw[show runK V F l 0=⟨[],0,[],[]⟩ from rfl,lsR_nil]
  exact KOut.refl _ _
structure WAt (u:St) (p:Nat) (ms:Nat→Nat) (cs:List VV) (ls:Nat→List (List Int)) (gs:Nat→Nat) (I:Nat→Bool):Prop where
 m:u p=.obj 59 cs
 len:cs.length=38
 r:∀i,i<4→I i=true→RwAt u cs (offK i) (ms i) (gs i) (ls i)
 ng:∀i j,i<4→j<4→i≠j→ls i≠[]→ls j≠[]→gs i≠gs j
 nd:∀i,i<4→(ls i).Nodup
theorem KallA (u:St)(p:Nat)(ms:Nat→Nat)(cs:List VV)(ls:Nat→List (List Int))(gs:Nat→Nat)(I:Nat→Bool)(h:WAt u p ms cs ls gs I)(j:Nat)(hj:j<4)(hI:I j=true){most st:Int}{sp:Bool}(hM:McAt cs most st sp) :
  SCalls Tryz.prog 11 [.ptr p (offK j)] u fun w v=>∃q:St×List VV,w=.ret (.lst (rowsV (sortR (ls j))) .no)∧v=q.1∧WAt q.1 p ms q.2 ls gs (fun i=>I i && !decide (i=j)) ∧
   (∀x,u x≠.free→x≠p→(∀i,i<4→ls i≠[]→x≠gs i)→q.1 x=u x)∧McAt q.2 most st sp:=
 SCalls.mono (Kall_S u p (offK j) (ms j) (gs j) cs (ls j) h.m (h.r j hj hI) (by rw[h.len];exact(offK_lt hj).1) (h.nd j hj)) fun w v ⟨q,h1,h2,h3,h4⟩=>by
  subst h2
  have hb:=offK_lt hj
  refine⟨(q.1,cs.set (offK j) q.2),h1,rfl,⟨h3,by rw[List.length_set];exact h.len,fun i hi hIi=>?_,h.ng,h.nd⟩,fun x hx hxp hg=>h4 x hx hxp (fun hl=>hg j hj hl),hM.of (by rw[List.length_set];exact h.len) fun x hx1 hx2=>by rw[List.getElem?_set_ne (by omega)]⟩
  simp only[Bool.and_eq_true,Bool.not_eq_true',decide_eq_false_iff_not]at hIi
  obtain⟨a1,a2,a3,a4,a5,a6⟩:=h.r i hi hIi.1
  have hj2:=h.r j hj hI
  obtain⟨o1,o2⟩:=offK_ne hj hi (Ne.symm hIi.2)
  refine⟨by rw[List.getElem?_set_ne o1];exact a1,by rw[List.getElem?_set_ne o2];exact a2,?_,fun hl=>?_,a5,a6⟩
  ·rw[h4 _ (by rw[a3];simp) (neC a3 h.m (by simp)) (fun hl=>neC a3 (hj2.r hl) (by simp))];exact a3
  ·rw[h4 _ (by rw[a4 hl];simp) (neC (a4 hl) h.m (by simp)) (fun hl'=>h.ng i j hi hj hIi.2 hl hl')];exact a4 hl
theorem KAt.wat {u:St}{K:Kc}{ml:VV}{cs:List VV}{env:List (List UInt8×Nat)}{k:Nat}{ls:Nat→List (List Int)}{gs ob fo:Nat→Nat}(h:KAt u K ml cs env k ls gs ob fo)(hn:∀i,i<4→(ls i).Nodup):WAt u K.p K.ms cs ls gs (fun _=>true):=
 ⟨h.m,h.len,fun i hi _=>h.r i hi,h.ng,hn⟩
theorem runK_nd (V F:List (List UInt8))(l:List Sl):∀m,(runK V F l m).seen.Nodup∧(runK V F l m).heap.Nodup
 |0=>⟨List.nodup_nil,List.nodup_nil⟩
 |m+1=>by
  obtain⟨h1,h2⟩:=runK_nd V F l m
  cases hx:l[m]? with
  |none=>
   have:runK V F l (m+1)=runK V F l m:=by
    unfold runK
    rw[List.take_of_length_le (by have:=List.getElem?_eq_none_iff.1 hx;omega),List.take_of_length_le (by have:=List.getElem?_eq_none_iff.1 hx;omega)]
   rw[this];exact⟨h1,h2⟩
  |some x=>
   rw[runK_succ hx]
   cases x with
   |nw v=>exact⟨putK_nodup h1,h2⟩
   |st d s f=>
    simp only[exK]
    cases hd:lkA d (runK V F l m).env with
    |none=>exact⟨h1,h2⟩
    |some a=>cases hs:lkA s (runK V F l m).env with
     |none=>exact⟨h1,h2⟩
     |some b=>exact⟨h1,putK_nodup h2⟩
theorem lsR_nd {q:Sr}(h1:q.seen.Nodup)(h2:q.heap.Nodup)(i:Nat):(lsR q i).Nodup:=by
 unfold lsR setN
 split
 ·exact h1
 ·split
  ·exact h2
  ·split
   ·exact h1
   ·exact List.nodup_nil
theorem lsR_at (q:Sr):lsR q 0=q.seen∧lsR q 1=q.heap∧lsR q 2=q.seen∧lsR q 3=[]:=⟨rfl,rfl,rfl,rfl⟩
theorem keepsK {t u v:St}{p x6:Nat}{G:Nat→Prop}(h:∀z,t z≠.free→u z=t z∧z≠p∧z≠x6∧G z)(h2:∀z,u z≠.free→z≠p→G z→v z=u z):∀z,t z≠.free→v z=t z∧z≠p∧z≠x6∧G z:=fun z hz=>by
 obtain⟨a,b,c,d⟩:=h z hz
 exact⟨(h2 z (by rw[a];exact hz) b d).trans a,b,c,d⟩
theorem fg_ownset {T U:St}{o:Own}{p n ty sz:Nat}{C:Cell}(hu:∀z,T z≠.free→U z=T z)(ho:OwnOk U o n):Fg ((U.own o ty sz n).set p C) (T.set p C):=fgK fun z hz=>by
 by_cases e:z=p
 ·subst e;rw[St.set_same,St.set_same]
 ·rw[St.set_other _ _ e]at hz ⊢
  rw[St.set_other _ _ e,own_rd (ho.not (by rw[hu z hz];exact hz)),hu z hz]
theorem vcall_nameK {P:Program}{N:Nat}{all:List Oper}{K:Env→St→Prop}{E:VV→Env→St→Prop}{d:Option Tmp}{rest:List Oper}{env:Env}{s:St}{f:FuncId}{xs:List VV}(h:∀s',s'=s→vcall2 P N all K E d rest env s' f xs):vcall2 P N all K E d rest env s f xs:=h s rfl
theorem KOut.keeps {T q:St}{K:Kc}{k:Nat}{ls:Nat→List (List Int)}{gs gs0 fo fo0:Nat→Nat}(h:KOut T q (KF K 0 (fun _=>[]) gs0 fo0) (KF K k ls gs fo)){z:Nat}(hz:T z≠.free)(h1:z≠K.p)(h2:z≠K.av)(h3:∀i,i<4→z≠K.ms i):q z=T z∧∀i,i<4→ls i≠[]→z≠gs i:=by
 have hn:¬ KF K 0 (fun _=>[]) gs0 fo0 z:=by
  rintro(e|e|⟨i,hi,e⟩|⟨i,hi,hl,e⟩|⟨j,hj,e⟩)
  ·exact h1 e
  ·exact h2 e
  ·exact h3 i hi e
  ·exact hl rfl
  ·exact absurd hj (Nat.not_lt_zero _)
 refine⟨h.k z hz hn,fun i hi hl e=>?_⟩
 rcases h.n z (.inr (.inr (.inr (.inl ⟨i,hi,hl,e⟩))))with a|a
 ·exact hn a
 ·exact hz a
end Go.Proofs.YtadbggfpnhkmbaaGreat
