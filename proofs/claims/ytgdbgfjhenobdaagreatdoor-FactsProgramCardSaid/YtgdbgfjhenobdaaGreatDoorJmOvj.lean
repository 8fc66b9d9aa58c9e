/- Walks of functions that the claim reaches, and plain facts of them. Conditions: those in the statements. -/
import Derived.Test.YtgdbgfjhenobdaaGreatDoorJmOsj
set_option linter.unusedSimpArgs false
set_option linter.unusedVariables false
set_option maxRecDepth 100000
namespace Go.Proofs.YtgdbgfjhenobdaaGreatDoor
open Go.RowKit
def dstB (d:List UInt8):List UInt8:=if d=[] then [] else d++[32,61,32]
def argsB (ar:List (List UInt8)):List UInt8:=[40]++Lib.join ar [44,32]++[41,59]
mutual
def stmB:Stm→Nat→List UInt8
 |.mk k d s c m ar o t,dp=>
  if k=1 then lineB dp [dstB d,[110,101,119,32],m,[59]]
  else if k=2 then lineB dp [dstB d,s,[59]]
  else if k=3 then lineB dp [dstB d,s,[46],m,[59]]
  else if k=4 then lineB dp [d,[46],m,[32,61,32],s,[59]]
  else if k=5 then lineB dp [dstB d,s,[46],m,argsB ar]
  else if k=6 then lineB dp [dstB d,c,[58,58],m,argsB ar]
  else if k=7 then lineB dp [[114,101,116,117,114,110,32],s,[59]]
  else if k=8 then lineB dp [[105,102,32,123]]++blkB o (dp+1)++lineB dp [[125,32,101,108,115,101,32,123]]++blkB t (dp+1)++lineB dp [[125]]
  else if k=9 then lineB dp [[108,111,111,112,32,123]]++blkB o (dp+1)++lineB dp [[125]]
  else []
def blkB:List Stm→Nat→List UInt8
 |[],_=>[]
 |x::l,dp=>stmB x dp++blkB l dp
end
theorem blkB_app (l r:List Stm)(dp:Nat):blkB (l++r) dp=blkB l dp++blkB r dp:=by
 induction l with
 |nil=>simp[blkB]
 |cons x l ih=>simp only[List.cons_append,blkB,ih,List.append_assoc]
theorem blkB_tk {l:List Stm}{i:Nat}{x:Stm}(h:l[i]?=some x)(dp:Nat):blkB (l.take (i+1)) dp=blkB (l.take i) dp++stmB x dp:=by
 rw[take_at h,blkB_app];simp[blkB]
theorem blkB_at {l:List Stm}{i:Nat}{x:Stm}(h:l[i]?=some x)(dp:Nat):blkB l dp=blkB (l.take i) dp++stmB x dp++blkB (l.drop (i+1)) dp:=by
 conv=>lhs;rw[split_at h,blkB_app]
 simp only[blkB,List.append_assoc]
def unS:List (List VV)→List (List UInt8)
 |[.str x]::r=>x::unS r
 |_=>[]
theorem unS_nil:unS []=[]:=rfl
theorem unS_cons {x:List UInt8}{r:List (List VV)}:unS ([.str x]::r)=x::unS r:=rfl
attribute [go_sem] unS_nil unS_cons
theorem lineX_S (t:St)(b:Nat)(ad:VV)(bs:List UInt8)(o:Own)(d:Nat)(xs:List (List VV))(o0:Own)(he:strs (unS xs)=xs)(hN:(unS xs).length≤1000)(had:AdOk b ad)(hO:Owned t o 5 1 bs.length)(hn:NotOwn o b)
  (hl:bs.length+(lineB d (unS xs)).length≤140737488355328) (hd:d≤100000) :
  SCalls Tryz.prog 160 [.ptr b 0,.lst xs o0] (Wr t b ad bs o d) (fun e u=>∃q:Own×VV,e=.ret (.tup [])∧u=WS t b o (bs++lineB d (unS xs)) d q∧WO t b o (bs++lineB d (unS xs)) q):=by
 have:=line_S t b ad bs o d (unS xs) o0 had hO hn hl hN hd
 rw[he]at this
 exact this
def BlkC (l:List Stm)(d:Nat):Prop:=∀(o0:Own) (t:St) (b:Nat) (ad:VV) (bs:List UInt8) (o:Own),AdOk b ad→Owned t o 5 1 bs.length→NotOwn o b→bs.length+(blkB l d).length≤140737488355328 →
 SCalls Tryz.prog 179 [.ptr b 0,.lst (stsC l) o0] (Wr t b ad bs o d) (fun e u=>∃q:Own×VV,e=.ret (.tup [])∧u=WS t b o (bs++blkB l d) d q∧WO t b o (bs++blkB l d) q)
theorem clo1_S {k:Int}{dt sr c m:List UInt8}{ar:List (List UInt8)}{oo tt:List Stm}{d:Nat}(hd:d≤100000)(hB:BlkC oo (d+1))(t:St)(b:Nat)(ad:VV)(bs:List UInt8)(o:Own)(x2 x5:Nat)(n2:¬ x2=b)(n5:¬ x5=b)
  (h2:t x2=.obj 224 [.ptr b 0]) (h5:t x5=.obj 149 (stC (.mk k dt sr c m ar oo tt))) (had:AdOk b ad) (hO:Owned t o 5 1 bs.length) (hn:NotOwn o b) (hl:bs.length+(blkB oo (d+1)).length≤140737488355328) :
  SCalls Tryz.prog 161 [.ptr b 0,.fn 190 [.ptr x2 0,.ptr x5 0]] (Wr t b ad bs o d) (fun e u=>∃q:Own×VV,e=.ret (.tup [])∧u=WS t b o (bs++blkB oo (d+1)) d q∧WO t b o (bs++blkB oo (d+1)) q):=by
 refine within_S t b ad bs _ o d _ _ hd can190 ?_
 refine G_enter Tryz.func190 rfl Tryz.ntmps190 rfl fun Q hQ hQe=>?_
 have hB2:=fun o0=>hB o0 t b ad bs o had hO hn hl
 clear hB
 simp only[stC,strsV,strs_C]at h5
 (repeat'(first|((with_reducible refine Kof.use hK ?_);clear hK hE K E)|((first|(with_reducible refine G_region fun K E hK hE=>?_)|((with_reducible refine call_ex can179 (hB2 _) (fun a h=>?_))))<;>(try simp(disch:=omega) only[go_sem,seval,Wr,WS, *]))))
 all_goals(refine W_norm res190 hQ ?_)
 all_goals exact⟨_,_,Wk.refl _,Fg.refl _,a,rfl,rfl,by assumption⟩
theorem clo2_S {k:Int}{dt sr c m:List UInt8}{ar:List (List UInt8)}{oo tt:List Stm}{d:Nat}(hd:d≤100000)(hB:BlkC tt (d+1))(t:St)(b:Nat)(ad:VV)(bs:List UInt8)(o:Own)(x2 x5:Nat)(n2:¬ x2=b)(n5:¬ x5=b)
  (h2:t x2=.obj 224 [.ptr b 0]) (h5:t x5=.obj 149 (stC (.mk k dt sr c m ar oo tt))) (had:AdOk b ad) (hO:Owned t o 5 1 bs.length) (hn:NotOwn o b) (hl:bs.length+(blkB tt (d+1)).length≤140737488355328) :
  SCalls Tryz.prog 161 [.ptr b 0,.fn 191 [.ptr x2 0,.ptr x5 0]] (Wr t b ad bs o d) (fun e u=>∃q:Own×VV,e=.ret (.tup [])∧u=WS t b o (bs++blkB tt (d+1)) d q∧WO t b o (bs++blkB tt (d+1)) q):=by
 refine within_S t b ad bs _ o d _ _ hd can191 ?_
 refine G_enter Tryz.func191 rfl Tryz.ntmps191 rfl fun Q hQ hQe=>?_
 have hB2:=fun o0=>hB o0 t b ad bs o had hO hn hl
 clear hB
 simp only[stC,strsV,strs_C]at h5
 (repeat'(first|((with_reducible refine Kof.use hK ?_);clear hK hE K E)|((first|(with_reducible refine G_region fun K E hK hE=>?_)|((with_reducible refine call_ex can179 (hB2 _) (fun a h=>?_))))<;>(try simp(disch:=omega) only[go_sem,seval,Wr,WS, *]))))
 all_goals(refine W_norm res191 hQ ?_)
 all_goals exact⟨_,_,Wk.refl _,Fg.refl _,a,rfl,rfl,by assumption⟩
theorem clo3_S {k:Int}{dt sr c m:List UInt8}{ar:List (List UInt8)}{oo tt:List Stm}{d:Nat}(hd:d≤100000)(hB:BlkC oo (d+1))(t:St)(b:Nat)(ad:VV)(bs:List UInt8)(o:Own)(x2 x5:Nat)(n2:¬ x2=b)(n5:¬ x5=b)
  (h2:t x2=.obj 224 [.ptr b 0]) (h5:t x5=.obj 149 (stC (.mk k dt sr c m ar oo tt))) (had:AdOk b ad) (hO:Owned t o 5 1 bs.length) (hn:NotOwn o b) (hl:bs.length+(blkB oo (d+1)).length≤140737488355328) :
  SCalls Tryz.prog 161 [.ptr b 0,.fn 192 [.ptr x2 0,.ptr x5 0]] (Wr t b ad bs o d) (fun e u=>∃q:Own×VV,e=.ret (.tup [])∧u=WS t b o (bs++blkB oo (d+1)) d q∧WO t b o (bs++blkB oo (d+1)) q):=by
 refine within_S t b ad bs _ o d _ _ hd can192 ?_
 refine G_enter Tryz.func192 rfl Tryz.ntmps192 rfl fun Q hQ hQe=>?_
 have hB2:=fun o0=>hB o0 t b ad bs o had hO hn hl
 clear hB
 simp only[stC,strsV,strs_C]at h5
 (repeat'(first|((with_reducible refine Kof.use hK ?_);clear hK hE K E)|((first|(with_reducible refine G_region fun K E hK hE=>?_)|((with_reducible refine call_ex can179 (hB2 _) (fun a h=>?_))))<;>(try simp(disch:=omega) only[go_sem,seval,Wr,WS, *]))))
 all_goals(refine W_norm res192 hQ ?_)
 all_goals exact⟨_,_,Wk.refl _,Fg.refl _,a,rfl,rfl,by assumption⟩
theorem totL_len:∀l:List Stm,l.length≤totL l
 |[]=>by simp
 |x::l=>by have:=totL_len l;have:=totS_pos x;simp only[totL,List.length_cons];omega
theorem okA_get {l:List Stm}{dp:Nat}(h:okA l dp=true){i:Nat}{x:Stm}(hx:l[i]?=some x):okS x dp=true:=by
 rw[okA_at hx]at h
 simp only[Bool.and_eq_true]at h
 exact h.1.2
theorem may_args {k:Int}{d s c m:List UInt8}{ar:List (List UInt8)}{o t:List Stm}(h:mayB (.mk k d s c m ar o t)=true):ar.length≤8∧∀x,x∈ar→x.length≤32:=by
 have key:ar.isEmpty=true∨namesB ar=true:=by
  simp only[mayB]at h
  repeat(split at h<;>first|(simp only[Bool.and_eq_true]at h;grind)|skip)
 rcases key with h|h
 ·have:ar=[]:=by simpa using h
  subst this;simp
 ·simp only[namesB,Bool.and_eq_true,decide_eq_true_eq]at h
  refine⟨h.1,fun x hx=>?_⟩
  have:=List.all_eq_true.1 h.2 x hx
  simp only[isNameB,signB,Bool.and_eq_true,decide_eq_true_eq]at this
  have h2:=oneK_le32 x
  rw[this.1.2]at h2
  exact h2
def BlkD (l:List Stm)(d:Nat):Prop:=∀(o0:Own) (D:St) (b:Nat) (ad:VV) (bs:List UInt8) (o:Own),AdOk b ad→OwnOk D o bs.length→NotOwn o b→bs.length+(blkB l d).length≤140737488355328 →
 SCalls Tryz.prog 179 [.ptr b 0,.lst (stsC l) o0] (Wr (D.own o 5 1 bs.length) b ad bs o d) (fun e u=>∃q:Own×VV,e=.ret (.tup [])∧u=Wr (D.own q.1 5 1 (bs++blkB l d).length) b q.2 (bs++blkB l d) q.1 d ∧
  OwnOk D q.1 (bs++blkB l d).length∧NotOwn q.1 b∧AdOk b q.2)
theorem BlkD.c {l:List Stm}{d:Nat}(h:BlkD l d):BlkC l d:=by
 intro o0 t b ad bs o had hO hn hl
 have:=h o0 (t.disown o) b ad bs o had (ownok_disown hO) hn hl
 rw[own_disown hO]at this
 exact this
set_option maxHeartbeats 8000000 in
theorem wblock_S (f:Nat):∀(l:List Stm) (dp:Nat),totL l=f→okA l dp=true→StmsOk l→∀d,d+f≤100000→BlkD l d:=by
 induction f using Nat.strongRecOn with
 |_ f ih=>
  intro l dp hf hok hl d hd o0 D bw ad bs o had hO hn hlen
  have hll:l.length≤100000:=by have:=totL_len l;omega
  have HOK:=Lib.hid hok
  clear hok
  refine G_enter Tryz.func179 rfl Tryz.ntmps179 rfl fun Q hQ hQe=>?_
  (repeat'(first|refine Ctl ?_|((with_reducible refine Kof.use hK ?_);clear hK hE K E)|((first|(with_reducible refine G_region fun K E hK hE=>?_)|((with_reducible refine W_fresh (fun b hb=>?_));(repeat(obtain⟨_,hb⟩:=hb));(try(simp only[own_fr]at hb;obtain⟨hno,hb⟩:=hb))))<;>(try simp(disch:=first|assumption|omega) only[go_sem,seval,stsC_len,Wr_out, *]))))
  rename_i nb1 nb2
  obtain⟨x2,hx2⟩:∃x2,x2=b:=⟨_,rfl⟩
  subst hx2
  refine G_loop (fun m env s'=>∃(i:Nat) (o1:Own) (ad1:VV) (bs1:List UInt8),i≤l.length∧m+i=l.length∧bs1=bs++blkB (l.take i) d∧s'=Wr ((D.own o1 5 1 bs1.length).set x2 (.obj 224 [.ptr bw 0])) bw ad1 bs1 o1 d ∧
   OwnOk D o1 bs1.length∧NotOwn o1 bw∧NotOwn o1 x2∧AdOk bw ad1∧env 2=.ptr x2 0∧env 8=.lst (stsC l) o0∧env 9=.int .i64 l.length∧env 10=.int .i64 i) l.length ?_ ?_
  ·exact⟨_,Fg.refl _,0,o,ad,bs,by omega,by omega,by simp[blkB],rfl,hO,hn,hno,had,z_sl,z_sl,z_sl,z_sl⟩
  ·clear hO hn hno had
   rintro m env s' ⟨i,o1,ad1,bs1,hi,hm,hbs,rfl,hO,hn,hno,had,e2,e8,e9,e10⟩
   by_cases hlt:i<l.length
   ·obtain⟨x,hx⟩:=list_get hlt
    have hxo:=hl.get hx
    have hsx:=stsC_at hx
    have hmay:=okS_may (okA_get HOK.out hx)
    have HB:bs1.length+(stmB x d).length≤140737488355328:=by
     rw[blkB_at hx]at hlen
     rw[hbs]
     simp only[List.length_append]at hlen ⊢
     omega
    have HE:bs1++stmB x d=bs++blkB (l.take (i+1)) d:=by rw[blkB_tk hx,hbs,List.append_assoc]
    have hxt:=totL_at hx
    have hxk:=okA_get HOK.out hx
    obtain⟨k,dd,sr,c,mm,ar,oo,tt⟩:=x
    obtain⟨har1,har2⟩:=may_args hmay
    have hjn:ar.length≤140737488355328:=by omega
    have hjl:(Lib.join ar [44,32]).length≤140737488355328:=by
     have h1:=join_len 32 [44,32] ar har2
     simp only[List.length_cons,List.length_nil]at h1
     have:ar.length * (32+(0+1+1))≤8 * 34:=Nat.mul_le_mul har1 (by omega)
     omega
    simp only[StmOk]at hxo
    obtain⟨⟨hd1,hd2,hd3,hd4⟩,_,⟨ho1,ho2⟩,⟨ht1,ht2⟩⟩:=hxo
    have HE0:=Lib.hid HE
    have HB0:=Lib.hid hbs
    have HX:=Lib.hid hxt
    have HK:=Lib.hid hxk
    clear HE hbs hx hmay har1 har2 hxt hxk hlen hl
    have hk:k=1∨k=2∨k=3∨k=4∨k=5∨k=6∨k=7∨k=8∨k=9:=by
     have:=HK.out
     simp only[okS,mayB,Bool.and_eq_true]at this
     repeat((split at this<;>first|omega|skip))
     all_goals simp at this
    have hB:∀oo2,totL oo2<totL l→okA oo2 (dp+1)=true→StmsOk oo2→BlkC oo2 (d+1):=fun oo2 h1 h2 h3=>
     (ih (totL oo2) (by omega) oo2 (dp+1) rfl h2 h3 (d+1) (by omega)).c
    by_cases hk7:k=8∨k=9
    ·have hoo:BlkC oo (d+1):=hB oo (by
      have h1:=HX.out
      rcases hk7 with rfl|rfl<;>simp only[totS,seval,if_true,if_false]at h1<;>omega) (by
      have h1:=HK.out
      simp only[okS,Bool.and_eq_true]at h1
      rcases hk7 with rfl|rfl<;>simp only[seval,if_true,if_false,Bool.and_eq_true]at h1<;>first|exact h1.2.1.2|exact h1.2.2) (by assumption)
     have w1:=fun t ad bs o x2 x5=>clo1_S (k:=k) (dt:=dd) (sr:=sr) (c:=c) (m:=mm) (ar:=ar) (tt:=tt) (by omega) hoo t bw ad bs o x2 x5
     have w3:=fun t ad bs o x2 x5=>clo3_S (k:=k) (dt:=dd) (sr:=sr) (c:=c) (m:=mm) (ar:=ar) (tt:=tt) (by omega) hoo t bw ad bs o x2 x5
     have htt:k=8→BlkC tt (d+1):=fun h8=>hB tt (by
      have h1:=HX.out
      subst h8
      simp only[totS,seval,if_true,if_false]at h1;omega) (by
      have h1:=HK.out
      subst h8
      simp only[okS,Bool.and_eq_true,seval,if_true,if_false]at h1
      exact h1.2.2) (by assumption)
     have w2:=fun(h8:k=8) t ad bs o x2 x5=>clo2_S (k:=k) (dt:=dd) (sr:=sr) (c:=c) (m:=mm) (ar:=ar) (oo:=oo) (by omega) (htt h8) t bw ad bs o x2 x5
     clear hB hoo htt
     simp only[stC,strsV,strs_C]at w1 w2 w3
     rcases hk7 with rfl|rfl
     all_goals simp only[stmB,seval,if_true,if_false]at HB
     all_goals try replace w2:=w2 rfl
     all_goals have hdd:dd=[]∨¬ dd=[]:=Classical.em _
     all_goals rcases hdd with rfl|hdd
     all_goals clear hk
     all_goals(repeat'(first|refine Ctl ?_|((with_reducible refine Kof.use hK ?_);clear hK hE K E)|((with_reducible refine W_cond (fun h=>?_) (fun h=>?_))<;>(try(exfalso;assumption)))|((first|(with_reducible first|refine G_region fun K E hK hE=>?_|refine call_ret can177 (Join_S _ _ _ (by assumption) (by assumption) _) ?_|refine W_and ?_)|((with_reducible refine call_ex can160 (lineX_S _ _ _ _ _ _ _ _ (by simp only[unS_nil,unS_cons,strs,List.map_cons,List.map_nil]) (by simp only[unS_nil,unS_cons,List.length_cons,List.length_nil];omega) (by assumption) (by simp(disch:=assumption) only[owned_set,owned_own]) (by assumption) (by simp only[unS_nil,unS_cons,List.length_append]at HB ⊢;omega) (by omega)) (fun a h=>?_));(obtain⟨o2,ad2⟩:=a;simp(disch:=assumption) only[WO,disown_set,disown_own,ownok_o,unS_nil,unS_cons]at h;obtain⟨⟨hn5,hn2,hO2⟩,hnb2,had2⟩:=h))|((with_reducible refine call_ex can161 (w1 _ _ _ _ _ _ (by assumption) (by assumption) (by simp(disch:=assumption) only[go_sem,seval, *]) (by simp(disch:=assumption) only[go_sem,seval, *]) (by assumption) (by simp(disch:=assumption) only[owned_set,owned_own]) (by assumption) (by simp only[unS_nil,unS_cons,List.length_append]at HB ⊢;omega)) (fun a h=>?_));(obtain⟨o2,ad2⟩:=a;simp(disch:=assumption) only[WO,disown_set,disown_own,ownok_o,unS_nil,unS_cons]at h;obtain⟨⟨hn5,hn2,hO2⟩,hnb2,had2⟩:=h))|((with_reducible refine call_ex can161 (w2 _ _ _ _ _ _ (by assumption) (by assumption) (by simp(disch:=assumption) only[go_sem,seval, *]) (by simp(disch:=assumption) only[go_sem,seval, *]) (by assumption) (by simp(disch:=assumption) only[owned_set,owned_own]) (by assumption) (by simp only[unS_nil,unS_cons,List.length_append]at HB ⊢;omega)) (fun a h=>?_));(obtain⟨o2,ad2⟩:=a;simp(disch:=assumption) only[WO,disown_set,disown_own,ownok_o,unS_nil,unS_cons]at h;obtain⟨⟨hn5,hn2,hO2⟩,hnb2,had2⟩:=h))|((with_reducible refine call_ex can161 (w3 _ _ _ _ _ _ (by assumption) (by assumption) (by simp(disch:=assumption) only[go_sem,seval, *]) (by simp(disch:=assumption) only[go_sem,seval, *]) (by assumption) (by simp(disch:=assumption) only[owned_set,owned_own]) (by assumption) (by simp only[unS_nil,unS_cons,List.length_append]at HB ⊢;omega)) (fun a h=>?_));(obtain⟨o2,ad2⟩:=a;simp(disch:=assumption) only[WO,disown_set,disown_own,ownok_o,unS_nil,unS_cons]at h;obtain⟨⟨hn5,hn2,hO2⟩,hnb2,had2⟩:=h))|((with_reducible refine W_fresh (fun b hb=>?_));(repeat(obtain⟨_,hb⟩:=hb));(try(simp only[own_fr]at hb;obtain⟨hno5,hb⟩:=hb))))<;>(try simp(disch:=first|assumption|omega) only[go_sem,seval,stsC_len,hsx,stC,strsV,strs_C,Wr,WS,Wr_out, *]))))
     all_goals
      have hE:=HE0.out
      simp only[stmB,dstB,argsB,seval,if_true,if_false,List.cons_append,List.nil_append,← List.append_assoc, *]at hE
      exact⟨_,(z_fg:Fg _ (Wr ((D.own o2 5 1 _).set x2 (.obj 224 [.ptr bw 0])) bw ad2 _ o2 d)),m - 1,by omega,i+1,o2,ad2,_,by omega,by omega,hE,rfl,by assumption,by assumption,by assumption,by assumption,z_sl,z_sl,z_sl,z_sl⟩
    ·clear hB
     have hdd:dd=[]∨¬ dd=[]:=Classical.em _
     rcases hdd with rfl|hdd
     all_goals rcases hk with rfl|rfl|rfl|rfl|rfl|rfl|rfl|rfl|rfl
     all_goals first|(exfalso;omega;done)|skip
     all_goals
      simp only[stmB,dstB,argsB,seval,if_true,if_false,List.cons_append,List.nil_append, *]at HB
     all_goals(repeat'(first|refine Ctl ?_|((with_reducible refine Kof.use hK ?_);clear hK hE K E)|((with_reducible refine W_cond (fun h=>?_) (fun h=>?_))<;>(try(exfalso;assumption)))|((first|(with_reducible first|refine G_region fun K E hK hE=>?_|refine call_ret can177 (Join_S _ _ _ (by assumption) (by assumption) _) ?_|refine W_and ?_)|((with_reducible refine call_ex can160 (lineX_S _ _ _ _ _ _ _ _ (by simp only[unS_nil,unS_cons,strs,List.map_cons,List.map_nil]) (by simp only[unS_nil,unS_cons,List.length_cons,List.length_nil];omega) (by assumption) (by simp(disch:=assumption) only[owned_set,owned_own]) (by assumption) (by simp only[unS_nil,unS_cons,List.length_append]at HB ⊢;omega) (by omega)) (fun a h=>?_));(obtain⟨o2,ad2⟩:=a;simp(disch:=assumption) only[WO,disown_set,disown_own,ownok_o,unS_nil,unS_cons]at h;obtain⟨⟨hn5,hn2,hO2⟩,hnb2,had2⟩:=h))|((with_reducible refine W_fresh (fun b hb=>?_));(repeat(obtain⟨_,hb⟩:=hb));(try(simp only[own_fr]at hb;obtain⟨hno5,hb⟩:=hb))))<;>(try simp(disch:=first|assumption|omega) only[go_sem,seval,stsC_len,hsx,stC,strsV,strs_C,Wr,WS,Wr_out, *]))))
     all_goals
      have hE:=HE0.out
      simp only[stmB,dstB,argsB,seval,if_true,if_false,List.cons_append,List.nil_append,← List.append_assoc, *]at hE
      exact⟨_,(z_fg:Fg _ (Wr ((D.own o2 5 1 _).set x2 (.obj 224 [.ptr bw 0])) bw ad2 _ o2 d)),m - 1,by omega,i+1,o2,ad2,_,by omega,by omega,hE,rfl,by assumption,by assumption,by assumption,by assumption,z_sl,z_sl,z_sl,z_sl⟩
   ·have hiL:i=l.length:=by omega
    have htk:l.take i=l:=by rw[hiL];exact List.take_length
    rw[htk]at hbs
    subst hbs
    (repeat'(first|refine Ctl ?_|((with_reducible refine Kof.use hK ?_);clear hK hE K E)|((with_reducible refine W_cond (fun h=>?_) (fun h=>?_))<;>(try(exfalso;omega)))|(((with_reducible refine G_region fun K E hK hE=>?_))<;>(try simp(disch:=omega) only[go_sem,seval,Wr,Wr_out, *]))))
    all_goals(refine W_norm res179 hQ ?_)
    all_goals exact⟨_,_,Wk.refl _,z_fg,(o1,ad1),rfl,rfl,hO,hn,had⟩
def howB (s:Bool):List UInt8:=if s=true then [115,116,97,116,105,99,32] else []
def mthB (m:Mth)(d:Nat):List UInt8:=lineB d [howB m.stat,m.nm,[40],Lib.join m.pars [44,32],[41,32,123]]++blkB m.body (d+1)++lineB d [[125]]
def mthsB:List Mth→Nat→List UInt8
 |[],_=>[]
 |m::l,d=>mthB m d++mthsB l d
theorem mthsB_app (l r:List Mth)(d:Nat):mthsB (l++r) d=mthsB l d++mthsB r d:=by
 induction l with
 |nil=>simp[mthsB]
 |cons x l ih=>simp only[List.cons_append,mthsB,ih,List.append_assoc]
theorem mthsB_tk {l:List Mth}{i:Nat}{x:Mth}(h:l[i]?=some x)(d:Nat):mthsB (l.take (i+1)) d=mthsB (l.take i) d++mthB x d:=by
 rw[take_at h,mthsB_app];simp[mthsB]
theorem mthsB_at {l:List Mth}{i:Nat}{x:Mth}(h:l[i]?=some x)(d:Nat):mthsB l d=mthsB (l.take i) d++mthB x d++mthsB (l.drop (i+1)) d:=by
 conv=>lhs;rw[split_at h,mthsB_app]
 simp only[mthsB,List.append_assoc]
def MthW (m:Mth):Prop:=okA m.body 1=true∧totL m.body≤1024∧StmsOk m.body∧m.pars.length≤8∧∀x,x∈m.pars→x.length≤32
theorem clom_S {st:Bool}{nm:List UInt8}{ps:List (List UInt8)}{bd:List Stm}{d:Nat}(hd:d≤100000)(hB:BlkC bd (d+1))(t:St)(b:Nat)(ad:VV)(bs:List UInt8)(o:Own)(x2 x5:Nat)(n2:¬ x2=b)(n5:¬ x5=b)
  (h2:t x2=.obj 224 [.ptr b 0]) (h5:t x5=.obj 93 [.bool st,.str nm,.lst (strs ps) .no,.lst (stsC bd) .no]) (had:AdOk b ad) (hO:Owned t o 5 1 bs.length) (hn:NotOwn o b) (hl:bs.length+(blkB bd (d+1)).length≤140737488355328) :
  SCalls Tryz.prog 161 [.ptr b 0,.fn 178 [.ptr x2 0,.ptr x5 0]] (Wr t b ad bs o d) (fun e u=>∃q:Own×VV,e=.ret (.tup [])∧u=WS t b o (bs++blkB bd (d+1)) d q∧WO t b o (bs++blkB bd (d+1)) q):=by
 refine within_S t b ad bs _ o d _ _ hd can178 ?_
 refine G_enter Tryz.func178 rfl Tryz.ntmps178 rfl fun Q hQ hQe=>?_
 have hB2:=fun o0=>hB o0 t b ad bs o had hO hn hl
 clear hB
 (repeat'(first|((with_reducible refine Kof.use hK ?_);clear hK hE K E)|((first|(with_reducible refine G_region fun K E hK hE=>?_)|((with_reducible refine call_ex can179 (hB2 _) (fun a h=>?_))))<;>(try simp(disch:=omega) only[go_sem,seval,Wr,WS, *]))))
 all_goals(refine W_norm res178 hQ ?_)
 all_goals exact⟨_,_,Wk.refl _,Fg.refl _,a,rfl,rfl,by assumption⟩
set_option maxHeartbeats 4000000 in
theorem wmethodD_S (m:Mth)(hm:MthW m)(d:Nat)(hd:d≤1000)(D:St)(bw:Nat)(ad:VV)(bs:List UInt8)(o:Own)(had:AdOk bw ad)(hO:OwnOk D o bs.length)(hn:NotOwn o bw)(hlen:bs.length+(mthB m d).length≤140737488355328) :
  SCalls Tryz.prog 163 [.ptr bw 0,.agg (mthC m)] (Wr (D.own o 5 1 bs.length) bw ad bs o d) (fun e u=>∃q:Own×VV,e=.ret (.tup [])∧u=Wr (D.own q.1 5 1 (bs++mthB m d).length) bw q.2 (bs++mthB m d) q.1 d ∧
   OwnOk D q.1 (bs++mthB m d).length∧NotOwn q.1 bw∧AdOk bw q.2):=by
 obtain⟨st,nm,ps,bd⟩:=m
 obtain⟨hk,ht,hst,hp8,hp32⟩:=hm
 simp only at hk ht hst hp8 hp32
 have hjn:ps.length≤140737488355328:=by omega
 have hjl:(Lib.join ps [44,32]).length≤140737488355328:=by
  have h1:=join_len 32 [44,32] ps hp32
  simp only[List.length_cons,List.length_nil]at h1
  have:ps.length * (32+(0+1+1))≤8 * 34:=Nat.mul_le_mul hp8 (by omega)
  omega
 have hB:BlkC bd (d+1):=(wblock_S _ bd 1 rfl hk hst (d+1) (by omega)).c
 have w1:=fun t ad bs o x2 x5=>clom_S (st:=st) (nm:=nm) (ps:=ps) (by omega) hB t bw ad bs o x2 x5
 have HB:=hlen
 clear hB hk hp32 hlen
 refine G_enter Tryz.func163 rfl Tryz.ntmps163 rfl fun Q hQ hQe=>?_
 simp only[mthC,strsV,strs_C,stsV]
 cases st
 all_goals simp only[mthB,howB,if_true,if_false,Bool.false_eq_true]at HB
 all_goals(repeat'(first|refine Ctl ?_|(with_reducible first|(refine Kof.use hK ?_;clear hK hE K E)|(refine Kof.use hKh ?_;clear hKh Kh)|(refine Kof.use hKb (P_next ?_);clear hKb Kb)|refine G_plan 4 [([0,1,2,3,4,5],6,[[0,1,2,3]]),([7],8,[[],[]])] [] hQe fun K E hK hE=>?_)|((with_reducible refine W_cond (fun h=>?_) (fun h=>?_))<;>(try(exfalso;assumption)))|((first|(with_reducible first|refine G_region fun K E hK hE=>?_|refine call_ret can177 (Join_S _ _ _ (by assumption) (by assumption) _) ?_|refine P_heads fun Kh hKh=>?_|refine P_fin fun Kh hKh=>?_|refine P_each fun Kb hKb=>?_)|((with_reducible refine call_ex can160 (lineX_S _ _ _ _ _ _ _ _ (by simp only[unS_nil,unS_cons,strs,List.map_cons,List.map_nil]) (by simp only[unS_nil,unS_cons,List.length_cons,List.length_nil];omega) (by assumption) (by simp(disch:=assumption) only[owned_set,owned_own]) (by assumption) (by simp only[unS_nil,unS_cons,List.length_append]at HB ⊢;omega) (by omega)) (fun a h=>?_));(obtain⟨o2,ad2⟩:=a;simp(disch:=assumption) only[WO,disown_set,disown_own,ownok_o,unS_nil,unS_cons]at h;obtain⟨⟨hn5,hn2,hO2⟩,hnb2,had2⟩:=h))|((with_reducible refine call_ex can161 (w1 _ _ _ _ _ _ (by assumption) (by assumption) (by simp(disch:=assumption) only[go_sem,seval, *]) (by simp(disch:=assumption) only[go_sem,seval, *]) (by assumption) (by simp(disch:=assumption) only[owned_set,owned_own]) (by assumption) (by simp only[unS_nil,unS_cons,List.length_append]at HB ⊢;omega)) (fun a h=>?_));(obtain⟨o2,ad2⟩:=a;simp(disch:=assumption) only[WO,disown_set,disown_own,ownok_o,unS_nil,unS_cons]at h;obtain⟨⟨hn5,hn2,hO2⟩,hnb2,had2⟩:=h))|((with_reducible refine W_fresh (fun b hb=>?_));(repeat(obtain⟨_,hb⟩:=hb));(try(simp only[own_fr]at hb;obtain⟨hno5,hb⟩:=hb))))<;>(try simp(disch:=first|assumption|omega) only[go_sem,seval,Wr,WS,Wr_out, *]))))
 all_goals(refine W_norm res163 hQ ?_)
 all_goals
  simp only[mthB,howB,if_true,if_false,Bool.false_eq_true,← List.append_assoc]
  exact⟨_,_,Wk.refl _,z_fg,(o2,ad2),rfl,rfl,by assumption,by assumption,by assumption⟩
theorem wmethod_S (m:Mth)(hm:MthW m)(d:Nat)(hd:d≤1000)(t:St)(b:Nat)(ad:VV)(bs:List UInt8)(o:Own)(had:AdOk b ad)(hO:Owned t o 5 1 bs.length)(hn:NotOwn o b)(hl:bs.length+(mthB m d).length≤140737488355328) :
  SCalls Tryz.prog 163 [.ptr b 0,.agg (mthC m)] (Wr t b ad bs o d) (fun e u=>∃q:Own×VV,e=.ret (.tup [])∧u=WS t b o (bs++mthB m d) d q∧WO t b o (bs++mthB m d) q):=by
 have:=wmethodD_S m hm d hd (t.disown o) b ad bs o had (ownok_disown hO) hn hl
 rw[own_disown hO]at this
 exact this
def parB (p:List UInt8):List UInt8:=if p=[] then [] else [32,101,120,116,101,110,100,115,32]++p
def clsB (c:Cls):List UInt8:=lineB 0 [[99,108,97,115,115,32],c.nm,parB c.par,[32,123]]++mthsB c.mths 1++lineB 0 [[125]]
def prtB:List Cls→List UInt8
 |[]=>[]
 |c::l=>clsB c++prtB l
theorem prtB_app (l r:List Cls):prtB (l++r)=prtB l++prtB r:=by
 induction l with
 |nil=>simp[prtB]
 |cons x l ih=>simp only[List.cons_append,prtB,ih,List.append_assoc]
theorem prtB_tk {l:List Cls}{i:Nat}{x:Cls}(h:l[i]?=some x):prtB (l.take (i+1))=prtB (l.take i)++clsB x:=by
 rw[take_at h,prtB_app];simp[prtB]
theorem prtB_at {l:List Cls}{i:Nat}{x:Cls}(h:l[i]?=some x):prtB l=prtB (l.take i)++clsB x++prtB (l.drop (i+1)):=by
 conv=>lhs;rw[split_at h,prtB_app]
 simp only[prtB,List.append_assoc]
set_option maxHeartbeats 4000000 in
theorem cloP_S {nm pa:List UInt8}{ms:List Mth}(hms:ms.length≤32)(hm:∀m,m∈ms→MthW m)(t:St)(bw:Nat)(ad:VV)(bs:List UInt8)(o:Own)(x6 x4:Nat)(n6:¬ x6=bw)(n4:¬ x4=bw)
  (h6:t x6=.obj 85 [.str nm,.str pa,.lst (ms.map mthC) .no]) (h4:t x4=.obj 224 [.ptr bw 0]) (had:AdOk bw ad) (hO:Owned t o 5 1 bs.length) (hn:NotOwn o bw) (hl:bs.length+(mthsB ms 1).length≤140737488355328) :
  SCalls Tryz.prog 161 [.ptr bw 0,.fn 162 [.ptr x6 0,.ptr x4 0]] (Wr t bw ad bs o 0) (fun e u=>∃q:Own×VV,e=.ret (.tup [])∧u=WS t bw o (bs++mthsB ms 1) 0 q∧WO t bw o (bs++mthsB ms 1) q):=by
 refine within_S t bw ad bs _ o 0 _ _ (by omega) can162 ?_
 unfold WP WO
 have hDO:=ownok_disown hO
 have hT:=own_disown hO
 have hd6:t.disown o x6=t x6:=by
  cases o with
  |at_ x=>simp only[Owned]at hO;simp only[St.disown,St.set];rw[if_neg];rintro rfl;rw[h6]at hO;cases hO
  |_=>rfl
 have hd4:t.disown o x4=t x4:=by
  cases o with
  |at_ x=>simp only[Owned]at hO;simp only[St.disown,St.set];rw[if_neg];rintro rfl;rw[h4]at hO;cases hO
  |_=>rfl
 have hno6:NotOwn o x6:=by cases o with
  |at_ x=>rintro rfl;simp only[Owned]at hO;rw[h6]at hO;cases hO
  |_=>trivial
 have hno4:NotOwn o x4:=by cases o with
  |at_ x=>rintro rfl;simp only[Owned]at hO;rw[h4]at hO;cases hO
  |_=>trivial
 rw[h6]at hd6
 rw[h4]at hd4
 clear h6 h4
 show SCalls _ _ _ _ fun e u=>∃q:Own×VV,e=.ret (.tup [])∧u=Wr ((t.disown o).own q.1 5 1 (bs++mthsB ms 1).length) bw q.2 (bs++mthsB ms 1) q.1 ((0+1:Nat):Int)∧OwnOk (t.disown o) q.1 (bs++mthsB ms 1).length∧NotOwn q.1 bw∧AdOk bw q.2
 generalize t.disown o=D at *
 subst hT
 have hf6:D x6≠.free:=by rw[hd6];simp
 have hf4:D x4≠.free:=by rw[hd4];simp
 refine G_enter Tryz.func162 rfl Tryz.ntmps162 rfl fun Q hQ hQe=>?_
 (repeat'(first|refine Ctl ?_|((with_reducible refine Kof.use hK ?_);clear hK hE K E)|(((with_reducible refine G_region fun K E hK hE=>?_))<;>(try simp(disch:=first|assumption|omega) only[go_sem,seval,Wr,Wr_out,List.length_map, *]))))
 refine G_loop (fun m env s'=>∃(i:Nat) (o1:Own) (ad1:VV) (bs1:List UInt8),i≤ms.length∧m+i=ms.length∧bs1=bs++mthsB (ms.take i) 1∧s'=Wr (D.own o1 5 1 bs1.length) bw ad1 bs1 o1 (1:Nat) ∧
  OwnOk D o1 bs1.length∧NotOwn o1 bw∧NotOwn o1 x4∧AdOk bw ad1∧env 1=.ptr x4 0∧env 5=.lst (ms.map mthC) .no∧env 6=.int .i64 ms.length∧env 7=.int .i64 i) ms.length ?_ ?_
 ·exact⟨_,Fg.refl _,0,o,ad,bs,by omega,by omega,by simp[mthsB],rfl,hDO,hn,hno4,had,z_sl,z_sl,z_sl,z_sl⟩
 ·clear hDO hO hn hno6 hno4 had
  rintro m env s' ⟨i,o1,ad1,bs1,hi,hm2,hbs,rfl,hO,hn,hno,had,e1,e5,e6,e7⟩
  by_cases hlt:i<ms.length
  ·obtain⟨x,hx⟩:=list_get hlt
   have hsx:=mthC_at hx
   have hmw:=hm x (List.mem_of_getElem? hx)
   have HB:bs1.length+(mthB x 1).length≤140737488355328:=by
    rw[mthsB_at hx]at hl
    rw[hbs]
    simp only[List.length_append]at hl ⊢
    omega
   have HE:bs1++mthB x 1=bs++mthsB (ms.take (i+1)) 1:=by rw[mthsB_tk hx,hbs,List.append_assoc]
   have w1:=fun t ad bs o=>wmethod_S x hmw 1 (by omega) t bw ad bs o
   have HE0:=Lib.hid HE
   clear HE hbs hx hl
   obtain⟨st,mn,ps,bd⟩:=x
   simp only[mthC,strsV,strs_C,stsV]at w1 hsx
   (repeat'(first|refine Ctl ?_|((with_reducible refine Kof.use hK ?_);clear hK hE K E)|((with_reducible refine W_cond (fun h=>?_) (fun h=>?_))<;>(try(exfalso;assumption)))|((first|(with_reducible refine G_region fun K E hK hE=>?_)|((with_reducible refine call_ex can163 (w1 _ _ _ _ (by assumption) (by simp(disch:=assumption) only[owned_set,owned_own]) (by assumption) (by assumption)) (fun a h=>?_));(obtain⟨o2,ad2⟩:=a;simp(disch:=assumption) only[WO,disown_set,disown_own,ownok_o,unS_nil,unS_cons]at h;obtain⟨⟨hn5,hO2⟩,hnb2,had2⟩:=h))|((with_reducible refine W_fresh (fun b hb=>?_));(repeat(obtain⟨_,hb⟩:=hb));(try(simp only[own_fr]at hb;obtain⟨hno5,hb⟩:=hb;obtain⟨_,_⟩:=nef hb hf4;obtain⟨_,_⟩:=nef hb hf6))))<;>(try simp(disch:=first|assumption|omega) only[go_sem,seval,List.length_map,hsx,Wr,WS,Wr_out, *]))))
   all_goals
    exact⟨_,(z_fg:Fg _ (Wr (D.own o2 5 1 _) bw ad2 _ o2 (1:Nat))),m - 1,by omega,i+1,o2,ad2,_,by omega,by omega,HE0.out,rfl,by assumption,by assumption,hO2.not hf4,by assumption,z_sl,z_sl,z_sl,z_sl⟩
  ·have hiL:i=ms.length:=by omega
   have htk:ms.take i=ms:=by rw[hiL];exact List.take_length
   rw[htk]at hbs
   subst hbs
   (repeat'(first|refine Ctl ?_|((with_reducible refine Kof.use hK ?_);clear hK hE K E)|((with_reducible refine W_cond (fun h=>?_) (fun h=>?_))<;>(try(exfalso;omega)))|(((with_reducible refine G_region fun K E hK hE=>?_))<;>(try simp(disch:=omega) only[go_sem,seval,Wr,Wr_out, *]))))
   all_goals(refine W_norm res162 hQ ?_)
   all_goals exact⟨_,_,Wk.refl _,z_fg,(o1,ad1),rfl,rfl,hO,hn,had⟩
theorem isName_len {t:List UInt8}(h:isNameB t=true):t.length≤32:=by
 simp only[isNameB,signB,Bool.and_eq_true,decide_eq_true_eq]at h
 have h2:=oneK_le32 t
 rw[h.1.2]at h2
 exact h2
theorem join0_cons (x:List UInt8)(r:List (List UInt8)):(Lib.join (x::r) []).length=x.length+(Lib.join r []).length:=by
 rw[Lib.join_cons,List.length_append]
 cases r with
 |nil=>simp[Lib.joinTail,Lib.join_nil]
 |cons y r=>rw[Lib.join_cons];simp[Lib.joinTail]
theorem line_len (d:Nat)(l:List (List UInt8)):(lineB d l).length=2 * d+(Lib.join l []).length+1:=by simp[lineB,repeatL_len,Nat.add_assoc]
theorem args_len {ar:List (List UInt8)}(h:ar.length≤8)(h2:∀x,x∈ar→x.length≤32)(sep:List UInt8)(hs:sep.length=2):(Lib.join ar sep).length≤272:=by
 have h1:=join_len 32 sep ar h2
 have:ar.length * (32+sep.length)≤8 * 34:=Nat.mul_le_mul h (by omega)
 omega
theorem dst_len {d:List UInt8}(h:d.length≤32):(dstB d).length≤35:=by
 unfold dstB
 split
 ·simp
 ·rw[List.length_append];simp;omega
theorem names8 {ar:List (List UInt8)}(h:namesB ar=true):ar.length≤8∧∀x,x∈ar→x.length≤32:=by
 simp only[namesB,Bool.and_eq_true,decide_eq_true_eq]at h
 exact⟨h.1,fun x hx=>isName_len (List.all_eq_true.1 h.2 x hx)⟩
theorem may_len {k:Int}{d s c m:List UInt8}{ar:List (List UInt8)}{o t:List Stm}(h:mayB (.mk k d s c m ar o t)=true) :
  d.length≤32∧s.length≤32∧c.length≤32∧m.length≤32∧ar.length≤8∧∀x,x∈ar→x.length≤32:=by
 have hn:∀{t:List UInt8},t.isEmpty=true∨isNameB t=true→t.length≤32:=fun {t} h=>by
  rcases h with h|h
  ·have:t=[]:=by simpa using h
   subst this;simp
  ·exact isName_len h
 have key:(d.isEmpty=true∨isNameB d=true)∧(s.isEmpty=true∨isNameB s=true)∧(c.isEmpty=true∨isNameB c=true)∧(m.isEmpty=true∨isNameB m=true):=by
  simp only[mayB,needL]at h
  repeat(split at h<;>first|(simp only[Bool.and_eq_true,Bool.or_eq_true,List.all_cons,List.all_nil]at h;grind)|skip)
 obtain⟨h1,h2,h3,h4⟩:=key
 exact⟨hn h1,hn h2,hn h3,hn h4,may_args h⟩
mutual
theorem stm_len:∀(x:Stm) (dp:Nat),dp≤8→okS x dp=true→(stmB x (dp+1)).length≤3000 * totS x
 |.mk k d s c m ar o t,dp,hdp,h=>by
  simp only[okS,Bool.and_eq_true]at h
  obtain⟨hm,hr⟩:=h
  obtain⟨h1,h2,h3,h4,h5,h6⟩:=may_len hm
  have hd:=dst_len h1
  have ha:=args_len h5 h6 [44,32] rfl
  have ha2:(argsB ar).length≤280:=by simp only[argsB,List.length_append,List.length_cons,List.length_nil];omega
  by_cases h8:k=8
  ·subst h8
   simp only[if_true,Bool.and_eq_true,decide_eq_true_eq]at hr
   obtain⟨⟨hr1,hr2⟩,hr3⟩:=hr
   have b1:=blk_len o (dp+1) (by omega) hr2
   have b2:=blk_len t (dp+1) (by omega) hr3
   simp only[stmB,totS,seval,if_true,if_false,List.length_append,line_len,join0_cons,Lib.join_nil,List.length_cons,List.length_nil]
   omega
  ·by_cases h9:k=9
   ·subst h9
    simp only[seval,if_true,if_false,Bool.and_eq_true,decide_eq_true_eq]at hr
    obtain⟨hr1,hr2⟩:=hr
    have b1:=blk_len o (dp+1) (by omega) hr2
    simp only[stmB,totS,seval,if_true,if_false,List.length_append,line_len,join0_cons,Lib.join_nil,List.length_cons,List.length_nil]
    omega
   ·simp only[stmB,totS,if_neg h8,if_neg h9]
    repeat(split<;>first|(simp only[line_len,join0_cons,Lib.join_nil,List.length_cons,List.length_nil];omega)|skip)
theorem blk_len:∀(l:List Stm) (dp:Nat),dp≤8→okA l dp=true→(blkB l (dp+1)).length≤3000 * totL l
 |[],_,_,_=>by simp[blkB]
 |x::l,dp,hdp,h=>by
  simp only[okA,Bool.and_eq_true]at h
  have h1:=stm_len x dp hdp h.1
  have h2:=blk_len l dp hdp h.2
  simp only[blkB,totL,List.length_append]
  omega
end
theorem mth_len {m:Mth}(h:headM m=true)(ho:okA m.body 1=true):(mthB m 1).length≤3000+3000 * totL m.body:=by
 simp only[headM,Bool.and_eq_true]at h
 have h1:=isName_len h.1
 obtain⟨h2,h3⟩:=names8 h.2
 have ha:=args_len h2 h3 [44,32] rfl
 have hb:=blk_len m.body 1 (by omega) ho
 have hh:(howB m.stat).length≤7:=by unfold howB;split<;>simp
 simp only[mthB,List.length_append,line_len,join0_cons,Lib.join_nil,List.length_cons,List.length_nil]
 omega
theorem mths_len:∀{l:List Mth},l.all headM=true→l.all (fun m=>okA m.body 1)=true→(mthsB l 1).length≤3000 * l.length+3000 * totM l
 |[],_,_=>by simp[mthsB]
 |m::l,h,ho=>by
  simp only[List.all_cons,Bool.and_eq_true]at h ho
  have h1:=mth_len h.1 ho.1
  have h2:=mths_len h.2 ho.2
  simp only[mthsB,totM,List.length_append,List.length_cons]
  omega
theorem prt_len:∀{x:List Cls},x.all headC=true→(allM x).all (fun m=>okA m.body 1)=true→(prtB x).length≤3000 * 33 * x.length+3000 * totM (allM x)
 |[],_,_=>by simp[prtB]
 |c::l,h,ho=>by
  simp only[List.all_cons,Bool.and_eq_true]at h
  simp only[allM,List.all_append,Bool.and_eq_true]at ho
  have h2:=prt_len h.2 ho.2
  obtain⟨hc,_⟩:=h
  simp only[headC,Bool.and_eq_true,decide_eq_true_eq,Bool.or_eq_true]at hc
  obtain⟨⟨⟨h3,h4⟩,h5⟩,h6⟩:=hc
  have h7:=mths_len h6 ho.1
  have h8:=isName_len h3
  have h9:(parB c.par).length≤50:=by
   unfold parB
   split
   ·simp
   ·rename_i hne
    rcases h4 with h4|h4
    ·exact absurd (by simpa using h4) hne
    ·have:=isName_len h4;rw[List.length_append];simp;omega
  simp only[prtB,clsB,allM,totM_app,List.length_append,line_len,join0_cons,Lib.join_nil,List.length_cons,List.length_nil]
  omega
theorem totM_mem:∀{l:List Mth} {m:Mth},m∈l→totL m.body≤totM l
 |[],_,h=>by cases h
 |x::l,m,h=>by
  simp only[totM]
  rcases List.mem_cons.1 h with rfl|h
  ·omega
  ·have:=totM_mem h;omega
theorem allM_mem:∀{x:List Cls} {c:Cls} {m:Mth},c∈x→m∈c.mths→m∈allM x
 |[],_,_,h,_=>by cases h
 |y::l,c,m,h,hm=>by
  simp only[allM]
  rcases List.mem_cons.1 h with rfl|h
  ·exact List.mem_append_left _ hm
  ·exact List.mem_append_right _ (allM_mem h hm)
theorem check_parts {x:List Cls}(h:checkB x=true)(hx:SrcOk x):x.length≤32∧(prtB x).length≤10000000∧∀c,c∈x→c.nm.length≤32∧c.mths.length≤32∧∀m,m∈c.mths→MthW m:=by
 simp only[checkB,Bool.and_eq_true,decide_eq_true_eq]at h
 obtain⟨⟨h32,hh⟩,ho,ht⟩:=h
 have hp:=prt_len hh ho
 refine⟨h32,?_,fun c hc=>?_⟩
 ·have:3000 * 33 * x.length≤3000 * 33 * 32:=Nat.mul_le_mul_left _ h32
  omega
 ·have hcc:=List.all_eq_true.1 hh c hc
  simp only[headC,Bool.and_eq_true,decide_eq_true_eq]at hcc
  refine⟨isName_len hcc.1.1.1,hcc.1.2,fun m hm=>?_⟩
  have hmm:=List.all_eq_true.1 hcc.2 m hm
  simp only[headM,Bool.and_eq_true]at hmm
  obtain⟨h2,h3⟩:=names8 hmm.2
  have hin:=allM_mem hc hm
  exact⟨List.all_eq_true.1 ho m hin,Nat.le_trans (totM_mem hin) ht,((hx.2 c hc).2.2.2 m hm).2.2.2,h2,h3⟩
def printS (x:List Cls):List UInt8×Nat:=
 if checkB x=true then(match lexSigns (prtB x)with|.ok _=>(prtB x,0)|.error _=>([],2))else([],1)
def printV (x:List Cls):VV:=.tup [.str (printS x).1,.int .i64 (printS x).2]
theorem Bs_S (t:St)(b:Nat)(ad:VV)(bs:List UInt8)(o:Own)(d:Int)(hO:Owned t o 5 1 bs.length)(hn:NotOwn o b)(hne:o=.full∨bs≠[]) :
  SRet Tryz.prog 164 [.ptr b 0] (Wr t b ad bs o d) (.str bs) (Wr t b ad bs o d):=by
 have:=Bstr_S (t.disown o) b ad bs o d (ownok_disown hO) hn hne
 rw[own_disown hO]at this
 exact this
theorem cls_ne (bs:List UInt8)(c:Cls):bs++clsB c≠[]:=by
 simp[clsB,lineB]
set_option maxHeartbeats 4000000 in
theorem Print_S (x:List Cls)(hx:SrcOk x)(s:St):SRet Tryz.prog 136 [srcV x] s (printV x) s:=by
 have hck:=check_S x hx
 simp only[srcV]at hck
 refine G_enter Tryz.func136 rfl Tryz.ntmps136 rfl fun Q hQ hQe=>?_
 cases hc:checkB x with
 |false=>
  have hres:printV x=.tup [.str [],.int .i64 1]:=by simp[printV,printS,hc]
  rw[hc]at hck
  (repeat'(first|refine Ctl ?_|((with_reducible refine Kof.use hK ?_);clear hK hE K E)|((with_reducible refine W_cond (fun h=>?_) (fun h=>?_))<;>(try(exfalso;assumption)))|((first|(with_reducible first|refine G_region fun K E hK hE=>?_|refine call_ret can159 (hck _) ?_)|((with_reducible refine W_fresh (fun b hb=>?_))))<;>(try simp(disch:=omega) only[go_sem,seval,List.length_map,srcV, *]))))
  all_goals(refine W_ret res136 hQ ?_)
  all_goals(refine⟨_,_,Wk.of_eq ?_,?_,rfl,rfl⟩)
  ·rw[hres]
  ·(exact z_fg)
 |true=>
  obtain⟨h32,hpl,hcs⟩:=check_parts hc hx
  have hgl:(prtB x).length≤9223372036854775000:=by omega
  have hsig:=fun s=>signs_S (prtB x) hgl s
  have HC:=Lib.hid hc
  rw[hc]at hck
  clear hc
  (repeat'(first|refine Ctl ?_|((with_reducible refine Kof.use hK ?_);clear hK hE K E)|((with_reducible refine W_cond (fun h=>?_) (fun h=>?_))<;>(try(exfalso;assumption)))|((first|(with_reducible first|refine G_region fun K E hK hE=>?_|refine call_ret can159 (hck _) ?_|refine W_and ?_)|((with_reducible refine W_fresh (fun b hb=>?_));(repeat(obtain⟨_,hb⟩:=hb))))<;>(try simp(disch:=first|assumption|omega) only[go_sem,seval,List.length_map,srcV,Wr_out, *]))))
  rename_i xb hxb bw n1 n2 hbw m1 m2 m3 m4
  obtain⟨x4,hx4⟩:∃x4,x4=b:=⟨_,rfl⟩
  subst hx4
  have line0:∀(t:St) (ad:VV) (bs:List UInt8) (o:Own) (xs:List (List VV)) (o0:Own),strs (unS xs)=xs→(unS xs).length≤1000→AdOk bw ad→Owned t o 5 1 bs.length→NotOwn o bw→bs.length+(lineB 0 (unS xs)).length≤140737488355328 →
    SCalls Tryz.prog 160 [.ptr bw 0,.lst xs o0] (Wr t bw ad bs o 0) (fun e u=>∃q:Own×VV,e=.ret (.tup [])∧u=WS t bw o (bs++lineB 0 (unS xs)) 0 q∧WO t bw o (bs++lineB 0 (unS xs)) q):=
   fun t ad bs o xs o0 h1 h2 h3 h4 h5 h6=>lineX_S t bw ad bs o 0 xs o0 h1 h2 h3 h4 h5 h6 (by omega)
  refine G_loop (fun m env s'=>∃(i:Nat) (o1:Own) (ad1:VV) (bs1:List UInt8),i≤x.length∧m+i=x.length∧bs1=prtB (x.take i)∧s'=Wr ((s.own o1 5 1 bs1.length).set x4 (.obj 224 [.ptr bw 0])) bw ad1 bs1 o1 0 ∧
   OwnOk s o1 bs1.length∧NotOwn o1 bw∧NotOwn o1 x4∧AdOk bw ad1∧(o1=.full∨bs1≠[])∧env 4=.ptr x4 0∧env 17=.lst (x.map clsC) .no∧env 18=.int .i64 x.length∧env 19=.int .i64 i) x.length ?_ ?_
  ·exact⟨Wr ((s.own .full 5 1 0).set x4 (.obj 224 [.ptr bw 0])) bw (.raw (.pointer none)) [] .full 0,z_fg,0,.full,.raw (.pointer none),[],by omega,by omega,rfl,rfl,rfl,trivial,trivial,.inl rfl,.inl rfl,z_sl,z_sl,z_sl,z_sl⟩
  ·rintro m env s' ⟨i,o1,ad1,bs1,hi,hm2,hbs,rfl,hO,hn,hno,had,hne,e4,e17,e18,e19⟩
   by_cases hlt:i<x.length
   ·obtain⟨c,hcx⟩:=list_get hlt
    have hsx:=clsC_at hcx
    obtain⟨hc1,hc2,hc3⟩:=hcs c (List.mem_of_getElem? hcx)
    have hc4:=(hx.2 c (List.mem_of_getElem? hcx)).2.1
    have HB:bs1.length+(clsB c).length≤140737488355328:=by
     rw[prtB_at hcx]at hpl
     rw[hbs]
     simp only[List.length_append]at hpl ⊢
     omega
    have HE:bs1++clsB c=prtB (x.take (i+1)):=by rw[prtB_tk hcx,hbs]
    have HE0:=Lib.hid HE
    have HN:=Lib.hid (cls_ne bs1 c)
    clear HE hbs hcx hck hsig hcs hgl
    obtain⟨nm,pa,ms⟩:=c
    simp only at hc1 hc2 hc3 hc4
    have w1:=fun t ad bs o x6=>cloP_S (nm:=nm) (pa:=pa) hc2 hc3 t bw ad bs o x6 x4
    simp only[clsC]at hsx
    have hpp:pa=[]∨¬ pa=[]:=Classical.em _
    rcases hpp with rfl|hpp
    all_goals simp only[clsB,parB,if_true,if_false,List.cons_append,List.nil_append, *]at HB
    all_goals(repeat'(first|refine Ctl ?_|((with_reducible refine Kof.use hK ?_);clear hK hE K E)|((with_reducible refine W_cond (fun h=>?_) (fun h=>?_))<;>(try(exfalso;assumption)))|((first|(with_reducible first|refine G_region fun K E hK hE=>?_|refine W_and ?_)|((with_reducible refine call_ex can160 (line0 _ _ _ _ _ _ (by simp only[unS_nil,unS_cons,strs,List.map_cons,List.map_nil]) (by simp only[unS_nil,unS_cons,List.length_cons,List.length_nil];omega) (by assumption) (by simp(disch:=assumption) only[owned_set,owned_own]) (by assumption) (by simp only[unS_nil,unS_cons,List.length_append]at HB ⊢;omega)) (fun a h=>?_));(obtain⟨o2,ad2⟩:=a;simp(disch:=assumption) only[WO,disown_set,disown_own,ownok_o,unS_nil,unS_cons]at h;obtain⟨⟨hn5,hn2,hO2⟩,hnb2,had2⟩:=h))|((with_reducible refine call_ex can161 (w1 _ _ _ _ _ (by assumption) (by assumption) (by simp(disch:=assumption) only[go_sem,seval, *]) (by simp(disch:=assumption) only[go_sem,seval, *]) (by assumption) (by simp(disch:=assumption) only[owned_set,owned_own]) (by assumption) (by simp only[unS_nil,unS_cons,List.length_append]at HB ⊢;omega)) (fun a h=>?_));(obtain⟨o2,ad2⟩:=a;simp(disch:=assumption) only[WO,disown_set,disown_own,ownok_o,unS_nil,unS_cons]at h;obtain⟨⟨hn5,hn2,hO2⟩,hnb2,had2⟩:=h))|((with_reducible refine W_fresh (fun b hb=>?_));(repeat(obtain⟨_,hb⟩:=hb));(try(simp only[own_fr]at hb;obtain⟨hno5,hb⟩:=hb))))<;>(try simp(disch:=first|assumption|omega) only[go_sem,seval,List.length_map,hsx,Wr,WS,Wr_out, *]))))
    all_goals
     have hE:=HE0.out
     have hN:=HN.out
     simp only[clsB,parB,if_true,if_false,List.cons_append,List.nil_append,← List.append_assoc, *]at hE hN
     exact⟨_,(z_fg:Fg _ (Wr ((s.own o2 5 1 _).set x4 (.obj 224 [.ptr bw 0])) bw ad2 _ o2 0)),m - 1,by omega,i+1,o2,ad2,_,by omega,by omega,hE,rfl,by assumption,by assumption,by assumption,by assumption,.inr (by simpa using hN),z_sl,z_sl,z_sl,z_sl⟩
   ·have hiL:i=x.length:=by omega
    have htk:x.take i=x:=by rw[hiL];exact List.take_length
    rw[htk]at hbs
    subst hbs
    have hstr:=fun t ad o hO hn hne=>Bs_S t bw ad (prtB x) o 0 hO hn hne
    cases hL:lexSigns (prtB x)with
    |error e=>
     obtain⟨a,e⟩:=e
     have he:=lexSigns_err hL
     have he':¬ (e:Int)=0:=by omega
     rw[hL]at hsig
     simp only[signsV]at hsig
     have hres:printV x=.tup [.str [],.int .i64 2]:=by simp[printV,printS,HC.out,hL]
     (repeat'(first|refine Ctl ?_|((with_reducible refine Kof.use hK ?_);clear hK hE K E)|((with_reducible refine W_cond (fun h=>?_) (fun h=>?_))<;>(try(exfalso;first|assumption|omega)))|(((with_reducible first|refine G_region fun K E hK hE=>?_|refine call_ret can164 (hstr _ _ _ (by simp(disch:=assumption) only[owned_set,owned_own]) (by assumption) (by assumption)) ?_|refine call_ret can40 (hsig _) ?_))<;>(try simp(disch:=omega) only[go_sem,seval,Wr,Wr_out, *]))))
     all_goals(refine W_ret res136 hQ ?_)
     all_goals(refine⟨_,_,Wk.of_eq ?_,?_,rfl,rfl⟩)
     ·rw[hres]
     ·(exact z_fg)
    |ok L=>
     rw[hL]at hsig
     simp only[signsV]at hsig
     have hres:printV x=.tup [.str (prtB x),.int .i64 0]:=by simp[printV,printS,HC.out,hL]
     (repeat'(first|refine Ctl ?_|((with_reducible refine Kof.use hK ?_);clear hK hE K E)|((with_reducible refine W_cond (fun h=>?_) (fun h=>?_))<;>(try(exfalso;first|assumption|omega)))|(((with_reducible first|refine G_region fun K E hK hE=>?_|refine call_ret can164 (hstr _ _ _ (by simp(disch:=assumption) only[owned_set,owned_own]) (by assumption) (by assumption)) ?_|refine call_ret can40 (hsig _) ?_))<;>(try simp(disch:=omega) only[go_sem,seval,Wr,Wr_out, *]))))
     all_goals(refine W_ret res136 hQ ?_)
     all_goals(refine⟨_,_,Wk.of_eq ?_,?_,rfl,rfl⟩)
     ·rw[hres]
     ·(exact z_fg)
end Go.Proofs.YtgdbgfjhenobdaaGreatDoor
